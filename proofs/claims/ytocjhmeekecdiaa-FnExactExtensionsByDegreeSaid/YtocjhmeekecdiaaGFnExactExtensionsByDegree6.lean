/- What each Go function computes, as a Lean function, and the proof that it does: written by a program of this session (wip/gen), part 6. -/
import Derived.Test.YtocjhmeekecdiaaGFnExactExtensionsByDegree5
namespace Go.Proofs.Ytocjhmeekecdiaa.G
open Go Go.RowKit Go.Proofs.Ytocjhmeekecdiaa.K
set_option linter.unusedVariables false
set_option linter.unusedSimpArgs false

/-! ### impl_Colouring_cliques__Colouring_firstOf_1: function 79 ((*loop.example/g01362/impl.Colouring).cliques) -/
mutual
def impl_Colouring_cliques__Colouring_firstOf_1.l0 : Nat → Col → Int → List Int → Int → List Int → Int → Option (Bool × List Int)
  | 0, _, _, _, _, _, _ => none
  | q9 + 1, x, c, list, with_, ls0_4, xs0_5 => if xs0_5 < x.p then ((impl_Colouring_goesWith.f q9 x c list xs0_5).bind fun t11 => if t11 = true then ((slices_Clone_int64_int64.f list).bind fun t13 => (push t13 xs0_5).bind fun l21 => (impl_Colouring_cliques__Colouring_firstOf_1.f q9 x c l21 with_ ls0_4).bind fun t22 => if t22.1 = true then (impl_Colouring_cliques__Colouring_firstOf_1.l0 q9 x c list with_ t22.2 (w64 (xs0_5 + 1))) else (some (false, t22.2))) else (impl_Colouring_cliques__Colouring_firstOf_1.l0 q9 x c list with_ ls0_4 (w64 (xs0_5 + 1)))) else (some (true, ls0_4))
def impl_Colouring_cliques__Colouring_firstOf_1.l1 : Nat → Col → Int → List Int → Int → List Int → Int → Option (Bool × List Int)
  | 0, _, _, _, _, _, _ => none
  | q27 + 1, x, c, list, with_, ls1_4, xs1_5 => if xs1_5 < x.p then ((impl_Colouring_goesWith.f q27 x c list xs1_5).bind fun t29 => if t29 = true then ((slices_Clone_int64_int64.f list).bind fun t31 => (push t31 xs1_5).bind fun l39 => (impl_Colouring_cliques__Colouring_firstOf_1.f q27 x c l39 with_ ls1_4).bind fun t40 => if t40.1 = true then (impl_Colouring_cliques__Colouring_firstOf_1.l1 q27 x c list with_ t40.2 (w64 (xs1_5 + 1))) else (some (false, t40.2))) else (impl_Colouring_cliques__Colouring_firstOf_1.l1 q27 x c list with_ ls1_4 (w64 (xs1_5 + 1)))) else (some (true, ls1_4))
def impl_Colouring_cliques__Colouring_firstOf_1.f : Nat → Col → Int → List Int → Int → List Int → Option (Bool × List Int)
  | 0, _, _, _, _, _ => none
  | k + 1, x, c, list, with_, with_2 => (impl_Colouring_firstOf_1.f list with_ with_2).bind fun t1 => if t1.1 = true then (if (list.length : Int) > 0 then ((getI list (w64 ((list.length : Int) - 1))).bind fun t8 => impl_Colouring_cliques__Colouring_firstOf_1.l0 k x c list with_ t1.2 (w64 (t8 + 1))) else (impl_Colouring_cliques__Colouring_firstOf_1.l1 k x c list with_ t1.2 0)) else (some (false, t1.2))
end
set_option maxRecDepth 100000 in
set_option maxHeartbeats 1000000 in
theorem impl_Colouring_cliques__Colouring_firstOf_1.calls (k : Nat) (X : List Nat) (w0 : World) (b : Nat) (A : Option Addr) (c2 : Nat) (m : Nat) (b2 : Nat) (b3 : Nat) (A2 : Option Addr) (c3 : Nat) (m2 : Nat) (x : Col) (c : Int) (list : List Int) (with_ : Int) (with_2 : List Int) (r : Bool × List Int)
    (hp : Pre X w0 [.blk b 28 (Col.cells x), .blk b2 2 [.int .i64 with_], .blk b3 25 [.slice A2 m2 c3]] [IntsAt A c2 m list, IntsAt A2 c3 m2 with_2]) (H : impl_Colouring_cliques__Colouring_firstOf_1.f k x c list with_ with_2 = some r) :
    Calls Try.prog 79 [.pointer (some ⟨b, 0, none⟩), .int .i64 c, .slice A m c2, .func (.func 80) [].toArray [.pointer (some ⟨b2, 0, none⟩), .pointer (some ⟨b3, 0, none⟩)].toArray].toArray w0 (Ret fun v w => ∃ (B_2_0 : Option Addr) (d_2_0 : Nat) (m_2_0 : Nat), v = .bool r.1 ∧ Post X (fps [.blk b 28 (Col.cells x), .blk b2 2 [.int .i64 with_], .blk b3 25 [.slice A2 m2 c3]]) w0 [.blk b 28 (Col.cells x), .blk b2 2 [.int .i64 with_], .blk b3 25 [.slice B_2_0 m_2_0 d_2_0]] [IntsAt B_2_0 d_2_0 m_2_0 r.2] w) := by
  induction k using Nat.strongRecOn generalizing X w0 b A c2 m b2 b3 A2 c3 m2 x c list with_ with_2 r with
  | _ k ih =>
  cases k with
  | zero => cases H
  | succ k =>
  rw [impl_Colouring_cliques__Colouring_firstOf_1.f] at H
  refine enterM (n := 51) hp Try.func79 rfl rfl (Nat.le_of_ble_eq_true rfl) fun a w ht hm => ?_
  induction k using Nat.strongRecOn with
  | _ k ih =>
  refine wp_seq ?_
  refine wpr ?_
  refine wpl rfl rfl ht (ev_assign ht rfl rfl) ?_
  intro a ht
  refine wpList_nil ?_
  refine then_normal ?_
  refine wp_seq ?_
  refine wp_seq ?_
  refine wpr ?_
  refine wpl rfl rfl ht (ev_move ht rfl rfl) ?_
  intro a ht
  refine wpl rfl rfl ht (ev_move ht rfl rfl) ?_
  intro a ht
  obtain ⟨t1, et1, H⟩ := bind_get H
  have hcall := impl_Colouring_firstOf_1.calls _ _ A c2 m b2 b3 A2 c3 m2 list with_ with_2 _ ((hm.pick (own' := [.blk b2 2 [.int .i64 with_], .blk b3 25 [.slice A2 m2 c3]] ++ [.blk b 28 (Col.cells x)]) [1, 2, 0] rfl (by decide)).give (passed := [.blk b2 2 [.int .i64 with_], .blk b3 25 [.slice A2 m2 c3]]) (rest := [.blk b 28 (Col.cells x)]) (φp := [IntsAt A c2 m list, IntsAt A2 c3 m2 with_2]) [0, 1] rfl) et1
  refine wpl_call _ rfl rfl ht rfl rfl rfl rfl can_80 hcall ?_
  clear hcall
  rintro _ w ⟨A3, c4, m5, rfl, hpost⟩ a ht
  replace hm := (hm.pick (own' := [.blk b2 2 [.int .i64 with_], .blk b3 25 [.slice A2 m2 c3]] ++ [.blk b 28 (Col.cells x)]) [1, 2, 0] rfl (by decide)).back hpost
  clear hpost
  refine wpl rfl rfl ht (ev_not ht rfl rfl) ?_
  intro a ht
  refine wpList_nil ?_
  refine then_normal ?_
  by_cases h6 : t1.1 = true
  · replace H := ite_yes h6 H
    refine wpc_no ht rfl (not_t h6) ?_
    refine wp_skip ?_
    refine then_normal ?_
    refine wp_seq ?_
    refine wpr ?_
    refine wpl rfl rfl ht (ev_assign ht rfl rfl) ?_
    intro a ht
    refine wpList_nil ?_
    refine then_normal ?_
    refine wp_seq ?_
    refine wp_seq ?_
    refine wpr ?_
    refine wpl rfl rfl ht (ev_move ht rfl rfl) ?_
    intro a ht
    refine wpl rfl rfl ht (ev_len_of ht rfl rfl und_25 (hm.fact (φ := IntsAt A c2 m list) 1 rfl)) ?_
    intro a ht
    refine wpl rfl rfl ht (ev_cmp ht rfl rfl rfl rfl) ?_
    intro a ht
    refine wpList_nil ?_
    refine then_normal ?_
    by_cases h7 : (list.length : Int) > 0
    · replace H := ite_yes h7 H
      refine wpc_yes ht rfl (decide_eq_true h7) ?_
      refine wpr ?_
      refine wpl rfl rfl ht (ev_move ht rfl rfl) ?_
      intro a ht
      refine wpl rfl rfl ht (ev_move ht rfl rfl) ?_
      intro a ht
      refine wpl rfl rfl ht (ev_len_of ht rfl rfl und_25 (hm.fact (φ := IntsAt A c2 m list) 1 rfl)) ?_
      intro a ht
      refine wpl rfl rfl ht (ev_arith ht rfl rfl rfl rfl) ?_
      intro a ht
      obtain ⟨t8, et8, H⟩ := bind_get H
      refine wpl rfl rfl ht (ev_index_ints ht rfl rfl rfl so_25 (hm.fact (φ := IntsAt A c2 m list) 1 rfl) et8) ?_
      intro a ht
      refine wpl rfl rfl ht (ev_load ht rfl rfl sc_2 (RowAt.cell (hm.fact (φ := IntsAt A c2 m list) 1 rfl) (ints_get et8) rfl)) ?_
      intro a ht
      refine wpl rfl rfl ht (ev_arith ht rfl rfl rfl rfl) ?_
      intro a ht
      refine wpl rfl rfl ht (ev_assign ht rfl rfl) ?_
      intro a ht
      refine wpList_nil ?_
      refine then_normal ?_
      refine wp_seq ?_
      refine wp_seq ?_
      refine wpr ?_
      refine wpl rfl rfl ht (ev_move ht rfl rfl) ?_
      intro a ht
      refine wpl rfl rfl ht (ev_assign ht rfl rfl) ?_
      intro a ht
      refine wpList_nil ?_
      refine then_normal ?_
      refine wp_block ?_
      refine wpLoop (fun q a w => ∃ (ls0_4 : List Int) (xs0_5 : Int) (As0_1 : Option Addr) (cs0_2 : Nat) (ms0_3 : Nat), impl_Colouring_cliques__Colouring_firstOf_1.l0 q x c list with_ ls0_4 xs0_5 = some r ∧ q ≤ k ∧ Tm 51 [(0, .pointer (some ⟨b, 0, none⟩)), (1, .int .i64 c), (2, .slice A m c2), (3, .func (.func 80) [].toArray [.pointer (some ⟨b2, 0, none⟩), .pointer (some ⟨b3, 0, none⟩)].toArray), (8, .bool false), (10, .int .i64 xs0_5)] a ∧ Ms X (fps [.blk b 28 (Col.cells x), .blk b2 2 [.int .i64 with_], .blk b3 25 [.slice A2 m2 c3]]) w0 [.blk b2 2 [.int .i64 with_], .blk b3 25 [.slice As0_1 ms0_3 cs0_2], .blk b 28 (Col.cells x)] [IntsAt A c2 m list, IntsAt As0_1 cs0_2 ms0_3 ls0_4, IntsAt A2 c3 m2 with_2] w) (k0 := k) ⟨t1.2, (w64 (t8 + 1)), A3, c4, m5, H, Nat.le_refl _, ht.sub ⟨rfl, rfl, rfl, rfl, rfl, rfl, trivial⟩, (hm.pick [0, 1, 2] rfl (by decide)).pickφ [1, 0, 2] rfl⟩ ?_
      clear H ht hm
      intro q9 a w hJ
      obtain ⟨ls0_4, xs0_5, As0_1, cs0_2, ms0_3, H, hqq9, ht, hm⟩ := hJ
      cases q9 with
      | zero => cases H
      | succ q9 =>
      rw [impl_Colouring_cliques__Colouring_firstOf_1.l0] at H
      refine wp_seq ?_
      refine wp_seq ?_
      refine wpr ?_
      refine wpl rfl rfl ht (ev_move ht rfl rfl) ?_
      intro a ht
      refine wpl rfl rfl ht (ev_move ht rfl rfl) ?_
      intro a ht
      refine wpl rfl rfl ht (ev_nilCheck ht rfl rfl) ?_
      intro a ht
      refine wpl rfl rfl ht (ev_fieldAddr ht rfl rfl fo_28_0) ?_
      intro a ht
      refine wpl rfl rfl ht (ev_load ht rfl rfl sc_2 (hm.blk_cell 2 rfl rfl)) ?_
      intro a ht
      refine wpl rfl rfl ht (ev_cmp ht rfl rfl rfl rfl) ?_
      intro a ht
      refine wpList_nil ?_
      refine then_normal ?_
      by_cases h10 : xs0_5 < x.p
      · replace H := ite_yes h10 H
        refine wpc_yes ht rfl (decide_eq_true h10) ?_
        refine wp_skip ?_
        refine then_normal ?_
        refine wp_seq ?_
        refine wp_block ?_
        refine wp_seq ?_
        refine wpr ?_
        refine wpl rfl rfl ht (ev_move ht rfl rfl) ?_
        intro a ht
        refine wpl rfl rfl ht (ev_move ht rfl rfl) ?_
        intro a ht
        refine wpl rfl rfl ht (ev_move ht rfl rfl) ?_
        intro a ht
        refine wpl rfl rfl ht (ev_move ht rfl rfl) ?_
        intro a ht
        obtain ⟨t11, et11, H⟩ := bind_get H
        have hcall := impl_Colouring_goesWith.calls q9 _ _ b A c2 m x c list xs0_5 _ ((fun (hq : Ms _ _ _ ([.blk b 28 (Col.cells x)] ++ [.blk b2 2 [.int .i64 with_], .blk b3 25 [.slice As0_1 ms0_3 cs0_2]]) _ _) => hq.lend (φp := [IntsAt A c2 m list]) (allRO_cons (hq.lendFact 0 rfl) (allRO_nil))) (hm.pick (own' := [.blk b 28 (Col.cells x)] ++ [.blk b2 2 [.int .i64 with_], .blk b3 25 [.slice As0_1 ms0_3 cs0_2]]) [2, 0, 1] rfl (by decide))) et11
        refine wpl_call _ rfl rfl ht rfl rfl rfl rfl can_82 hcall ?_
        clear hcall
        rintro _ w ⟨rfl, hpost⟩ a ht
        replace hm := (hm.pick (own' := [.blk b 28 (Col.cells x)] ++ [.blk b2 2 [.int .i64 with_], .blk b3 25 [.slice As0_1 ms0_3 cs0_2]]) [2, 0, 1] rfl (by decide)).backL hpost
        clear hpost
        refine wpl rfl rfl ht (ev_move ht rfl rfl) ?_
        intro a ht
        by_cases h12 : t11 = true
        · replace H := ite_yes h12 H
          refine wpl_yes rfl ht rfl (h12) ?_
          refine wpl rfl rfl ht (ev_move ht rfl rfl) ?_
          intro a ht
          refine wpl_yes rfl ht rfl (h12) ?_
          refine wpl rfl rfl ht (ev_move ht rfl rfl) ?_
          intro a ht
          refine wpl_yes rfl ht rfl (h12) ?_
          refine wpl rfl rfl ht (ev_move ht rfl rfl) ?_
          intro a ht
          refine wpl_yes rfl ht rfl (h12) ?_
          obtain ⟨t13, et13, H⟩ := bind_get H
          have hcall := slices_Clone_int64_int64.calls _ _ A c2 m list _ ((fun (hq : Ms _ _ _ ([] ++ [.blk b 28 (Col.cells x), .blk b2 2 [.int .i64 with_], .blk b3 25 [.slice As0_1 ms0_3 cs0_2]]) _ _) => hq.lend (φp := [IntsAt A c2 m list]) (allRO_cons (hq.lendFact 0 rfl) (allRO_nil))) (hm.pick (own' := [] ++ [.blk b 28 (Col.cells x), .blk b2 2 [.int .i64 with_], .blk b3 25 [.slice As0_1 ms0_3 cs0_2]]) [0, 1, 2] rfl (by decide))) et13
          refine wpl_call _ rfl rfl ht rfl rfl rfl rfl can_59 hcall ?_
          clear hcall
          rintro _ w ⟨A14, c15, m16, rfl, hpost⟩ a ht
          replace hm := (hm.pick (own' := [] ++ [.blk b 28 (Col.cells x), .blk b2 2 [.int .i64 with_], .blk b3 25 [.slice As0_1 ms0_3 cs0_2]]) [0, 1, 2] rfl (by decide)).backL hpost
          clear hpost
          refine wpl_yes rfl ht rfl (h12) ?_
          refine wpl rfl rfl ht (ev_move ht rfl rfl) ?_
          intro a ht
          refine wpl_yes rfl ht rfl (h12) ?_
          refine wpl_build_ints (l := [xs0_5]) rfl rfl ht hm rfl und_25 zo_2 sz1_2 (by decide) rfl rfl rfl ?_
          intro A17 a ht w hm
          refine wpl_yes rfl ht rfl (h12) ?_
          obtain ⟨l21, el21, H⟩ := bind_get H
          refine wpl_push (r := l21) 1 0 rfl rfl ht hm rfl ap_25 rfl rfl rfl rfl el21 ?_
          intro A18 c19 m20 a ht w hm
          refine wpl_yes rfl ht rfl (h12) ?_
          refine wpl rfl rfl ht (ev_move ht rfl rfl) ?_
          intro a ht
          refine wpl_yes rfl ht rfl (h12) ?_
          replace hm : Ms _ _ _ _ (IntsAt A18 c19 m20 l21 :: _) w := hm.shutVec 1 rfl
          obtain ⟨t22, et22, H⟩ := bind_get H
          have hcall := ih q9 (by omega) _ _ b A18 c19 m20 b2 b3 As0_1 cs0_2 ms0_3 x c l21 with_ ls0_4 _ ((hm.pick (own' := [.blk b 28 (Col.cells x), .blk b2 2 [.int .i64 with_], .blk b3 25 [.slice As0_1 ms0_3 cs0_2]] ++ [.vec A17 1 2 1 1 (ints ([xs0_5]))]) [1, 2, 3, 0] rfl (by decide)).give (passed := [.blk b 28 (Col.cells x), .blk b2 2 [.int .i64 with_], .blk b3 25 [.slice As0_1 ms0_3 cs0_2]]) (rest := [.vec A17 1 2 1 1 (ints ([xs0_5]))]) (φp := [IntsAt A18 c19 m20 l21, IntsAt As0_1 cs0_2 ms0_3 ls0_4]) [0, 2] rfl) et22
          refine wpl_call _ rfl rfl ht rfl rfl rfl rfl can_79 hcall ?_
          clear hcall
          rintro _ w ⟨A23, c24, m25, rfl, hpost⟩ a ht
          replace hm := (hm.pick (own' := [.blk b 28 (Col.cells x), .blk b2 2 [.int .i64 with_], .blk b3 25 [.slice As0_1 ms0_3 cs0_2]] ++ [.vec A17 1 2 1 1 (ints ([xs0_5]))]) [1, 2, 3, 0] rfl (by decide)).back hpost
          clear hpost
          refine wpl_yes rfl ht rfl (h12) ?_
          refine wpl rfl rfl ht (ev_not ht rfl rfl) ?_
          intro a ht
          refine wpl rfl rfl ht (ev_pick_yes ht rfl rfl h12 rfl) ?_
          intro a ht
          refine wpList_nil ?_
          refine then_normal ?_
          by_cases h26 : t22.1 = true
          · replace H := ite_yes h26 H
            refine wpc_no ht rfl (not_t h26) ?_
            refine wp_skip ?_
            refine blk_normal ?_
            refine then_normal ?_
            refine wpr ?_
            refine wpl rfl rfl ht (ev_move ht rfl rfl) ?_
            intro a ht
            refine wpl rfl rfl ht (ev_arith ht rfl rfl rfl rfl) ?_
            intro a ht
            refine wpl rfl rfl ht (ev_assign ht rfl rfl) ?_
            intro a ht
            refine wpList_nil ?_
            exact then_normal ⟨q9, by omega, t22.2, (w64 (xs0_5 + 1)), A23, c24, m25, H, by omega, ht.sub ⟨rfl, rfl, rfl, rfl, rfl, rfl, trivial⟩, (hm.pick [1, 2, 0] rfl (by decide)).pickφ [2, 0, 4] rfl⟩
          · replace H := ite_no h26 H
            refine wpc_yes ht rfl (not_f (Bool.eq_false_iff.mpr h26)) ?_
            refine wp_seq ?_
            refine wpr ?_
            refine wpl rfl rfl ht (ev_assign ht rfl rfl) ?_
            intro a ht
            refine wpList_nil ?_
            refine then_normal ?_
            refine wp_ret ?_
            refine blk_ret ?_
            refine then_ret ?_
            refine then_ret ?_
            refine blk_ret ?_
            refine then_ret ?_
            have hres := ht.res (P := Try.prog) (w := w) (rs := [.tmp 8]) (vs := [.bool false]) (.tmp rfl .nil)
            obtain rfl := Option.some.inj H
            exact leave ht rfl hres ⟨A23, c24, m25, rfl, ((hm.pick [0, 1, 2] rfl (by decide)).pickφ [0] rfl).post fun _ h => h⟩
        · replace H := ite_no h12 H
          refine wpl_no rfl rfl ht rfl (by rw [(Bool.eq_false_iff.mpr h12)]; decide) ?_
          intro a ht
          refine wpl_no rfl rfl ht rfl (by rw [(Bool.eq_false_iff.mpr h12)]; decide) ?_
          intro a ht
          refine wpl_no rfl rfl ht rfl (by rw [(Bool.eq_false_iff.mpr h12)]; decide) ?_
          intro a ht
          refine wpl_no rfl rfl ht rfl (by rw [(Bool.eq_false_iff.mpr h12)]; decide) ?_
          intro a ht
          refine wpl_no rfl rfl ht rfl (by rw [(Bool.eq_false_iff.mpr h12)]; decide) ?_
          intro a ht
          refine wpl_no rfl rfl ht rfl (by rw [(Bool.eq_false_iff.mpr h12)]; decide) ?_
          intro a ht
          refine wpl_no rfl rfl ht rfl (by rw [(Bool.eq_false_iff.mpr h12)]; decide) ?_
          intro a ht
          refine wpl_no rfl rfl ht rfl (by rw [(Bool.eq_false_iff.mpr h12)]; decide) ?_
          intro a ht
          refine wpl_no rfl rfl ht rfl (by rw [(Bool.eq_false_iff.mpr h12)]; decide) ?_
          intro a ht
          refine wpl_no rfl rfl ht rfl (by rw [(Bool.eq_false_iff.mpr h12)]; decide) ?_
          intro a ht
          refine wpl rfl rfl ht (ev_pick_no ht rfl rfl (Bool.eq_false_iff.mpr h12) rfl) ?_
          intro a ht
          refine wpList_nil ?_
          refine then_normal ?_
          refine wpc_no ht rfl rfl ?_
          refine wp_skip ?_
          refine blk_normal ?_
          refine then_normal ?_
          refine wpr ?_
          refine wpl rfl rfl ht (ev_move ht rfl rfl) ?_
          intro a ht
          refine wpl rfl rfl ht (ev_arith ht rfl rfl rfl rfl) ?_
          intro a ht
          refine wpl rfl rfl ht (ev_assign ht rfl rfl) ?_
          intro a ht
          refine wpList_nil ?_
          exact then_normal ⟨q9, by omega, ls0_4, (w64 (xs0_5 + 1)), As0_1, cs0_2, ms0_3, H, by omega, ht.sub ⟨rfl, rfl, rfl, rfl, rfl, rfl, trivial⟩, (hm.pick [1, 2, 0] rfl (by decide)).pickφ [0, 1, 2] rfl⟩
      · replace H := ite_no h10 H
        refine wpc_no ht rfl (decide_eq_false h10) ?_
        refine wp_exit ?_
        refine then_exit ?_
        refine then_exit ?_
        refine blk_hit ?_
        refine then_normal ?_
        refine wp_seq ?_
        refine wpr ?_
        refine wpl rfl rfl ht (ev_assign ht rfl rfl) ?_
        intro a ht
        refine wpList_nil ?_
        refine then_normal ?_
        refine wp_ret ?_
        have hres := ht.res (P := Try.prog) (w := w) (rs := [.tmp 8]) (vs := [.bool true]) (.tmp rfl .nil)
        obtain rfl := Option.some.inj H
        exact leave ht rfl hres ⟨As0_1, cs0_2, ms0_3, rfl, ((hm.pick [2, 0, 1] rfl (by decide)).pickφ [1] rfl).post fun _ h => h⟩
    · replace H := ite_no h7 H
      refine wpc_no ht rfl (decide_eq_false h7) ?_
      refine wp_skip ?_
      refine then_normal ?_
      refine wp_seq ?_
      refine wp_seq ?_
      refine wpr ?_
      refine wpl rfl rfl ht (ev_move ht rfl rfl) ?_
      intro a ht
      refine wpl rfl rfl ht (ev_assign ht rfl rfl) ?_
      intro a ht
      refine wpList_nil ?_
      refine then_normal ?_
      refine wp_block ?_
      refine wpLoop (fun q a w => ∃ (ls1_4 : List Int) (xs1_5 : Int) (As1_1 : Option Addr) (cs1_2 : Nat) (ms1_3 : Nat), impl_Colouring_cliques__Colouring_firstOf_1.l1 q x c list with_ ls1_4 xs1_5 = some r ∧ q ≤ k ∧ Tm 51 [(0, .pointer (some ⟨b, 0, none⟩)), (1, .int .i64 c), (2, .slice A m c2), (3, .func (.func 80) [].toArray [.pointer (some ⟨b2, 0, none⟩), .pointer (some ⟨b3, 0, none⟩)].toArray), (8, .bool false), (10, .int .i64 xs1_5)] a ∧ Ms X (fps [.blk b 28 (Col.cells x), .blk b2 2 [.int .i64 with_], .blk b3 25 [.slice A2 m2 c3]]) w0 [.blk b2 2 [.int .i64 with_], .blk b3 25 [.slice As1_1 ms1_3 cs1_2], .blk b 28 (Col.cells x)] [IntsAt A c2 m list, IntsAt As1_1 cs1_2 ms1_3 ls1_4, IntsAt A2 c3 m2 with_2] w) (k0 := k) ⟨t1.2, 0, A3, c4, m5, H, Nat.le_refl _, ht.sub ⟨rfl, rfl, rfl, rfl, rfl, rfl, trivial⟩, (hm.pick [0, 1, 2] rfl (by decide)).pickφ [1, 0, 2] rfl⟩ ?_
      clear H ht hm
      intro q27 a w hJ
      obtain ⟨ls1_4, xs1_5, As1_1, cs1_2, ms1_3, H, hqq27, ht, hm⟩ := hJ
      cases q27 with
      | zero => cases H
      | succ q27 =>
      rw [impl_Colouring_cliques__Colouring_firstOf_1.l1] at H
      refine wp_seq ?_
      refine wp_seq ?_
      refine wpr ?_
      refine wpl rfl rfl ht (ev_move ht rfl rfl) ?_
      intro a ht
      refine wpl rfl rfl ht (ev_move ht rfl rfl) ?_
      intro a ht
      refine wpl rfl rfl ht (ev_nilCheck ht rfl rfl) ?_
      intro a ht
      refine wpl rfl rfl ht (ev_fieldAddr ht rfl rfl fo_28_0) ?_
      intro a ht
      refine wpl rfl rfl ht (ev_load ht rfl rfl sc_2 (hm.blk_cell 2 rfl rfl)) ?_
      intro a ht
      refine wpl rfl rfl ht (ev_cmp ht rfl rfl rfl rfl) ?_
      intro a ht
      refine wpList_nil ?_
      refine then_normal ?_
      by_cases h28 : xs1_5 < x.p
      · replace H := ite_yes h28 H
        refine wpc_yes ht rfl (decide_eq_true h28) ?_
        refine wp_skip ?_
        refine then_normal ?_
        refine wp_seq ?_
        refine wp_block ?_
        refine wp_seq ?_
        refine wpr ?_
        refine wpl rfl rfl ht (ev_move ht rfl rfl) ?_
        intro a ht
        refine wpl rfl rfl ht (ev_move ht rfl rfl) ?_
        intro a ht
        refine wpl rfl rfl ht (ev_move ht rfl rfl) ?_
        intro a ht
        refine wpl rfl rfl ht (ev_move ht rfl rfl) ?_
        intro a ht
        obtain ⟨t29, et29, H⟩ := bind_get H
        have hcall := impl_Colouring_goesWith.calls q27 _ _ b A c2 m x c list xs1_5 _ ((fun (hq : Ms _ _ _ ([.blk b 28 (Col.cells x)] ++ [.blk b2 2 [.int .i64 with_], .blk b3 25 [.slice As1_1 ms1_3 cs1_2]]) _ _) => hq.lend (φp := [IntsAt A c2 m list]) (allRO_cons (hq.lendFact 0 rfl) (allRO_nil))) (hm.pick (own' := [.blk b 28 (Col.cells x)] ++ [.blk b2 2 [.int .i64 with_], .blk b3 25 [.slice As1_1 ms1_3 cs1_2]]) [2, 0, 1] rfl (by decide))) et29
        refine wpl_call _ rfl rfl ht rfl rfl rfl rfl can_82 hcall ?_
        clear hcall
        rintro _ w ⟨rfl, hpost⟩ a ht
        replace hm := (hm.pick (own' := [.blk b 28 (Col.cells x)] ++ [.blk b2 2 [.int .i64 with_], .blk b3 25 [.slice As1_1 ms1_3 cs1_2]]) [2, 0, 1] rfl (by decide)).backL hpost
        clear hpost
        refine wpl rfl rfl ht (ev_move ht rfl rfl) ?_
        intro a ht
        by_cases h30 : t29 = true
        · replace H := ite_yes h30 H
          refine wpl_yes rfl ht rfl (h30) ?_
          refine wpl rfl rfl ht (ev_move ht rfl rfl) ?_
          intro a ht
          refine wpl_yes rfl ht rfl (h30) ?_
          refine wpl rfl rfl ht (ev_move ht rfl rfl) ?_
          intro a ht
          refine wpl_yes rfl ht rfl (h30) ?_
          refine wpl rfl rfl ht (ev_move ht rfl rfl) ?_
          intro a ht
          refine wpl_yes rfl ht rfl (h30) ?_
          obtain ⟨t31, et31, H⟩ := bind_get H
          have hcall := slices_Clone_int64_int64.calls _ _ A c2 m list _ ((fun (hq : Ms _ _ _ ([] ++ [.blk b 28 (Col.cells x), .blk b2 2 [.int .i64 with_], .blk b3 25 [.slice As1_1 ms1_3 cs1_2]]) _ _) => hq.lend (φp := [IntsAt A c2 m list]) (allRO_cons (hq.lendFact 0 rfl) (allRO_nil))) (hm.pick (own' := [] ++ [.blk b 28 (Col.cells x), .blk b2 2 [.int .i64 with_], .blk b3 25 [.slice As1_1 ms1_3 cs1_2]]) [0, 1, 2] rfl (by decide))) et31
          refine wpl_call _ rfl rfl ht rfl rfl rfl rfl can_59 hcall ?_
          clear hcall
          rintro _ w ⟨A32, c33, m34, rfl, hpost⟩ a ht
          replace hm := (hm.pick (own' := [] ++ [.blk b 28 (Col.cells x), .blk b2 2 [.int .i64 with_], .blk b3 25 [.slice As1_1 ms1_3 cs1_2]]) [0, 1, 2] rfl (by decide)).backL hpost
          clear hpost
          refine wpl_yes rfl ht rfl (h30) ?_
          refine wpl rfl rfl ht (ev_move ht rfl rfl) ?_
          intro a ht
          refine wpl_yes rfl ht rfl (h30) ?_
          refine wpl_build_ints (l := [xs1_5]) rfl rfl ht hm rfl und_25 zo_2 sz1_2 (by decide) rfl rfl rfl ?_
          intro A35 a ht w hm
          refine wpl_yes rfl ht rfl (h30) ?_
          obtain ⟨l39, el39, H⟩ := bind_get H
          refine wpl_push (r := l39) 1 0 rfl rfl ht hm rfl ap_25 rfl rfl rfl rfl el39 ?_
          intro A36 c37 m38 a ht w hm
          refine wpl_yes rfl ht rfl (h30) ?_
          refine wpl rfl rfl ht (ev_move ht rfl rfl) ?_
          intro a ht
          refine wpl_yes rfl ht rfl (h30) ?_
          replace hm : Ms _ _ _ _ (IntsAt A36 c37 m38 l39 :: _) w := hm.shutVec 1 rfl
          obtain ⟨t40, et40, H⟩ := bind_get H
          have hcall := ih q27 (by omega) _ _ b A36 c37 m38 b2 b3 As1_1 cs1_2 ms1_3 x c l39 with_ ls1_4 _ ((hm.pick (own' := [.blk b 28 (Col.cells x), .blk b2 2 [.int .i64 with_], .blk b3 25 [.slice As1_1 ms1_3 cs1_2]] ++ [.vec A35 1 2 1 1 (ints ([xs1_5]))]) [1, 2, 3, 0] rfl (by decide)).give (passed := [.blk b 28 (Col.cells x), .blk b2 2 [.int .i64 with_], .blk b3 25 [.slice As1_1 ms1_3 cs1_2]]) (rest := [.vec A35 1 2 1 1 (ints ([xs1_5]))]) (φp := [IntsAt A36 c37 m38 l39, IntsAt As1_1 cs1_2 ms1_3 ls1_4]) [0, 2] rfl) et40
          refine wpl_call _ rfl rfl ht rfl rfl rfl rfl can_79 hcall ?_
          clear hcall
          rintro _ w ⟨A41, c42, m43, rfl, hpost⟩ a ht
          replace hm := (hm.pick (own' := [.blk b 28 (Col.cells x), .blk b2 2 [.int .i64 with_], .blk b3 25 [.slice As1_1 ms1_3 cs1_2]] ++ [.vec A35 1 2 1 1 (ints ([xs1_5]))]) [1, 2, 3, 0] rfl (by decide)).back hpost
          clear hpost
          refine wpl_yes rfl ht rfl (h30) ?_
          refine wpl rfl rfl ht (ev_not ht rfl rfl) ?_
          intro a ht
          refine wpl rfl rfl ht (ev_pick_yes ht rfl rfl h30 rfl) ?_
          intro a ht
          refine wpList_nil ?_
          refine then_normal ?_
          by_cases h44 : t40.1 = true
          · replace H := ite_yes h44 H
            refine wpc_no ht rfl (not_t h44) ?_
            refine wp_skip ?_
            refine blk_normal ?_
            refine then_normal ?_
            refine wpr ?_
            refine wpl rfl rfl ht (ev_move ht rfl rfl) ?_
            intro a ht
            refine wpl rfl rfl ht (ev_arith ht rfl rfl rfl rfl) ?_
            intro a ht
            refine wpl rfl rfl ht (ev_assign ht rfl rfl) ?_
            intro a ht
            refine wpList_nil ?_
            exact then_normal ⟨q27, by omega, t40.2, (w64 (xs1_5 + 1)), A41, c42, m43, H, by omega, ht.sub ⟨rfl, rfl, rfl, rfl, rfl, rfl, trivial⟩, (hm.pick [1, 2, 0] rfl (by decide)).pickφ [2, 0, 4] rfl⟩
          · replace H := ite_no h44 H
            refine wpc_yes ht rfl (not_f (Bool.eq_false_iff.mpr h44)) ?_
            refine wp_seq ?_
            refine wpr ?_
            refine wpl rfl rfl ht (ev_assign ht rfl rfl) ?_
            intro a ht
            refine wpList_nil ?_
            refine then_normal ?_
            refine wp_ret ?_
            refine blk_ret ?_
            refine then_ret ?_
            refine then_ret ?_
            refine blk_ret ?_
            refine then_ret ?_
            have hres := ht.res (P := Try.prog) (w := w) (rs := [.tmp 8]) (vs := [.bool false]) (.tmp rfl .nil)
            obtain rfl := Option.some.inj H
            exact leave ht rfl hres ⟨A41, c42, m43, rfl, ((hm.pick [0, 1, 2] rfl (by decide)).pickφ [0] rfl).post fun _ h => h⟩
        · replace H := ite_no h30 H
          refine wpl_no rfl rfl ht rfl (by rw [(Bool.eq_false_iff.mpr h30)]; decide) ?_
          intro a ht
          refine wpl_no rfl rfl ht rfl (by rw [(Bool.eq_false_iff.mpr h30)]; decide) ?_
          intro a ht
          refine wpl_no rfl rfl ht rfl (by rw [(Bool.eq_false_iff.mpr h30)]; decide) ?_
          intro a ht
          refine wpl_no rfl rfl ht rfl (by rw [(Bool.eq_false_iff.mpr h30)]; decide) ?_
          intro a ht
          refine wpl_no rfl rfl ht rfl (by rw [(Bool.eq_false_iff.mpr h30)]; decide) ?_
          intro a ht
          refine wpl_no rfl rfl ht rfl (by rw [(Bool.eq_false_iff.mpr h30)]; decide) ?_
          intro a ht
          refine wpl_no rfl rfl ht rfl (by rw [(Bool.eq_false_iff.mpr h30)]; decide) ?_
          intro a ht
          refine wpl_no rfl rfl ht rfl (by rw [(Bool.eq_false_iff.mpr h30)]; decide) ?_
          intro a ht
          refine wpl_no rfl rfl ht rfl (by rw [(Bool.eq_false_iff.mpr h30)]; decide) ?_
          intro a ht
          refine wpl_no rfl rfl ht rfl (by rw [(Bool.eq_false_iff.mpr h30)]; decide) ?_
          intro a ht
          refine wpl rfl rfl ht (ev_pick_no ht rfl rfl (Bool.eq_false_iff.mpr h30) rfl) ?_
          intro a ht
          refine wpList_nil ?_
          refine then_normal ?_
          refine wpc_no ht rfl rfl ?_
          refine wp_skip ?_
          refine blk_normal ?_
          refine then_normal ?_
          refine wpr ?_
          refine wpl rfl rfl ht (ev_move ht rfl rfl) ?_
          intro a ht
          refine wpl rfl rfl ht (ev_arith ht rfl rfl rfl rfl) ?_
          intro a ht
          refine wpl rfl rfl ht (ev_assign ht rfl rfl) ?_
          intro a ht
          refine wpList_nil ?_
          exact then_normal ⟨q27, by omega, ls1_4, (w64 (xs1_5 + 1)), As1_1, cs1_2, ms1_3, H, by omega, ht.sub ⟨rfl, rfl, rfl, rfl, rfl, rfl, trivial⟩, (hm.pick [1, 2, 0] rfl (by decide)).pickφ [0, 1, 2] rfl⟩
      · replace H := ite_no h28 H
        refine wpc_no ht rfl (decide_eq_false h28) ?_
        refine wp_exit ?_
        refine then_exit ?_
        refine then_exit ?_
        refine blk_hit ?_
        refine then_normal ?_
        refine wp_seq ?_
        refine wpr ?_
        refine wpl rfl rfl ht (ev_assign ht rfl rfl) ?_
        intro a ht
        refine wpList_nil ?_
        refine then_normal ?_
        refine wp_ret ?_
        have hres := ht.res (P := Try.prog) (w := w) (rs := [.tmp 8]) (vs := [.bool true]) (.tmp rfl .nil)
        obtain rfl := Option.some.inj H
        exact leave ht rfl hres ⟨As1_1, cs1_2, ms1_3, rfl, ((hm.pick [2, 0, 1] rfl (by decide)).pickφ [1] rfl).post fun _ h => h⟩
  · replace H := ite_no h6 H
    refine wpc_yes ht rfl (not_f (Bool.eq_false_iff.mpr h6)) ?_
    refine wp_seq ?_
    refine wpr ?_
    refine wpl rfl rfl ht (ev_assign ht rfl rfl) ?_
    intro a ht
    refine wpList_nil ?_
    refine then_normal ?_
    refine wp_ret ?_
    refine then_ret ?_
    have hres := ht.res (P := Try.prog) (w := w) (rs := [.tmp 8]) (vs := [.bool false]) (.tmp rfl .nil)
    obtain rfl := Option.some.inj H
    exact leave ht rfl hres ⟨A3, c4, m5, rfl, ((hm.pick [2, 0, 1] rfl (by decide)).pickφ [0] rfl).post fun _ h => h⟩

/-! ### impl_Colouring_firstOf: function 69 ((*loop.example/g01362/impl.Colouring).firstOf) -/
def impl_Colouring_firstOf.f (k : Nat) (x : Col) (c : Int) (m : Int) : Option (List Int × Bool) := (impl_Colouring_cliques__Colouring_firstOf_1.f k x c ([]) m ([] : List Int)).bind fun t5 => some (t5.2, !t5.1)
set_option maxRecDepth 100000 in
set_option maxHeartbeats 1000000 in
theorem impl_Colouring_firstOf.calls (k : Nat) (X : List Nat) (w0 : World) (b : Nat) (x : Col) (c : Int) (m : Int) (r : List Int × Bool)
    (hp : Pre X w0 [.blk b 28 (Col.cells x)] []) (H : impl_Colouring_firstOf.f k x c m = some r) :
    Calls Try.prog 69 [.pointer (some ⟨b, 0, none⟩), .int .i64 c, .int .i64 m].toArray w0 (Ret fun v w => ∃ (A_0 : Option Addr) (c_0 : Nat) (n_0 : Nat), v = .tuple [.slice A_0 n_0 c_0, .bool r.2].toArray ∧ Post X (fps [.blk b 28 (Col.cells x)]) w0 [.blk b 28 (Col.cells x)] [IntsAt A_0 c_0 n_0 r.1] w) := by
  unfold impl_Colouring_firstOf.f at H
  refine enterM (n := 18) hp Try.func69 rfl rfl (Nat.le_of_ble_eq_true rfl) fun a w ht hm => ?_
  refine wp_seq ?_
  refine wpr ?_
  refine wpl_box rfl rfl ht hm rfl rfl rfl ?_
  intro b1 a ht w hm
  refine wpl rfl rfl ht (ev_assign ht rfl rfl) ?_
  intro a ht
  refine wpl rfl rfl ht (ev_assign ht rfl rfl) ?_
  intro a ht
  refine wpList_nil ?_
  refine then_normal ?_
  refine wp_seq ?_
  refine wpr ?_
  refine wpl_build_ints (l := ([] : List Int)) rfl rfl ht hm rfl und_25 zo_2 sz1_2 (by decide) rfl rfl rfl ?_
  intro A2 a ht w hm
  refine wpl_alloc rfl rfl ht hm rfl zo_25 ?_
  intro b3 a ht w hm
  refine wpl_store_blk 0 rfl rfl ht hm rfl rfl rfl sz1_25 rfl rfl rfl ?_
  intro a ht w hm
  refine wpList_nil ?_
  refine then_normal ?_
  refine wp_seq ?_
  refine wpr ?_
  refine wpl rfl rfl ht (ev_move ht rfl rfl) ?_
  intro a ht
  refine wpl rfl rfl ht (ev_move ht rfl rfl) ?_
  intro a ht
  refine wpl rfl rfl ht (ev_makeFunc ht rfl rfl rfl) ?_
  intro a ht
  replace hm : Ms _ _ _ _ (IntsAt A2 0 0 ([] : List Int) :: _) w := hm.shutVec 1 rfl
  replace hm : Ms _ _ _ _ (IntsAt none 0 0 ([] : List Int) :: _) w := hm.nilRow none 1
  obtain ⟨t5, et5, H⟩ := bind_get H
  have hcall := impl_Colouring_cliques__Colouring_firstOf_1.calls k _ _ b none 0 0 b1 b3 A2 0 0 x c ([]) m ([] : List Int) _ ((hm.pick (own' := [.blk b 28 (Col.cells x), .blk b1 2 [.int .i64 m], .blk b3 25 [.slice A2 0 0]] ++ []) [2, 1, 0] rfl (by decide)).give (passed := [.blk b 28 (Col.cells x), .blk b1 2 [.int .i64 m], .blk b3 25 [.slice A2 0 0]]) (rest := []) (φp := [IntsAt none 0 0 ([] : List Int), IntsAt A2 0 0 ([] : List Int)]) [0, 1] rfl) et5
  refine wpl_call _ rfl rfl ht rfl rfl rfl rfl can_79 hcall ?_
  clear hcall
  rintro _ w ⟨A6, c7, m8, rfl, hpost⟩ a ht
  replace hm := (hm.pick (own' := [.blk b 28 (Col.cells x), .blk b1 2 [.int .i64 m], .blk b3 25 [.slice A2 0 0]] ++ []) [2, 1, 0] rfl (by decide)).back hpost
  clear hpost
  refine wpl rfl rfl ht (ev_assign ht rfl rfl) ?_
  intro a ht
  refine wpList_nil ?_
  refine then_normal ?_
  refine wp_seq ?_
  refine wpr ?_
  refine wpl rfl rfl ht (ev_load ht rfl rfl sc_25 (hm.blk_cell 2 rfl rfl)) ?_
  intro a ht
  refine wpl rfl rfl ht (ev_move ht rfl rfl) ?_
  intro a ht
  refine wpl rfl rfl ht (ev_not ht rfl rfl) ?_
  intro a ht
  refine wpl rfl rfl ht (ev_assign ht rfl rfl) ?_
  intro a ht
  refine wpl rfl rfl ht (ev_assign ht rfl rfl) ?_
  intro a ht
  refine wpList_nil ?_
  refine then_normal ?_
  refine wp_ret ?_
  have hres := ht.res (P := Try.prog) (w := w) (rs := [.tmp 6, .tmp 7]) (vs := [.slice A6 m8 c7, .bool !t5.1]) (.tmp rfl (.tmp rfl .nil))
  obtain rfl := Option.some.inj H
  exact leave ht rfl hres ⟨A6, c7, m8, rfl, ((hm.pick [0] rfl (by decide)).pickφ [0] rfl).post fun _ h => h⟩

/-! ### impl_Colouring_avoids: function 42 ((*loop.example/g01362/impl.Colouring).avoids) -/
def impl_Colouring_avoids.l0 : Nat → Col → List Int → Int → Option (Bool)
  | 0, _, _, _ => none
  | q1 + 1, x, sizes, xs0_1 => if xs0_1 < (sizes.length : Int) then ((getI sizes xs0_1).bind fun t3 => (impl_Colouring_firstOf.f q1 x xs0_1 t3).bind fun t4 => if t4.2 = true then (some false) else (impl_Colouring_avoids.l0 q1 x sizes (w64 (xs0_1 + 1)))) else (some true)
def impl_Colouring_avoids.f (k : Nat) (x : Col) (sizes : List Int) : Option (Bool) := impl_Colouring_avoids.l0 k x sizes 0
set_option maxRecDepth 100000 in
set_option maxHeartbeats 1000000 in
theorem impl_Colouring_avoids.calls (k : Nat) (X : List Nat) (w0 : World) (b : Nat) (A : Option Addr) (c : Nat) (m : Nat) (x : Col) (sizes : List Int) (r : Bool)
    (hp : Pre X w0 [.blk b 28 (Col.cells x)] [IntsAt A c m sizes]) (H : impl_Colouring_avoids.f k x sizes = some r) :
    Calls Try.prog 42 [.pointer (some ⟨b, 0, none⟩), .slice A m c].toArray w0 (Ret fun v w => v = .bool r ∧ Post X (fps [.blk b 28 (Col.cells x)]) w0 [.blk b 28 (Col.cells x)] [] w) := by
  unfold impl_Colouring_avoids.f at H
  refine enterM (n := 25) hp Try.func42 rfl rfl (Nat.le_of_ble_eq_true rfl) fun a w ht hm => ?_
  refine wp_seq ?_
  refine wpr ?_
  refine wpl rfl rfl ht (ev_assign ht rfl rfl) ?_
  intro a ht
  refine wpList_nil ?_
  refine then_normal ?_
  refine wp_seq ?_
  refine wp_seq ?_
  refine wpr ?_
  refine wpl rfl rfl ht (ev_move ht rfl rfl) ?_
  intro a ht
  refine wpl rfl rfl ht (ev_len_of ht rfl rfl und_25 (hm.fact (φ := IntsAt A c m sizes) 0 rfl)) ?_
  intro a ht
  refine wpl rfl rfl ht (ev_move ht rfl rfl) ?_
  intro a ht
  refine wpList_nil ?_
  refine then_normal ?_
  refine wp_block ?_
  refine wpLoop (fun q a w => ∃ (xs0_1 : Int), impl_Colouring_avoids.l0 q x sizes xs0_1 = some r ∧ q ≤ k ∧ Tm 25 [(0, .pointer (some ⟨b, 0, none⟩)), (4, .bool false), (9, .slice A m c), (10, .int .i64 (sizes.length : Int)), (11, .int .i64 xs0_1)] a ∧ Ms X (fps [.blk b 28 (Col.cells x)]) w0 [.blk b 28 (Col.cells x)] [IntsAt A c m sizes] w) (k0 := k) ⟨0, H, Nat.le_refl _, ht.sub ⟨rfl, rfl, rfl, rfl, rfl, trivial⟩, (hm.pick [0] rfl (by decide)).pickφ [0] rfl⟩ ?_
  clear H ht hm
  intro q1 a w hJ
  obtain ⟨xs0_1, H, hqq1, ht, hm⟩ := hJ
  cases q1 with
  | zero => cases H
  | succ q1 =>
  rw [impl_Colouring_avoids.l0] at H
  refine wp_seq ?_
  refine wpr ?_
  refine wpl rfl rfl ht (ev_cmp ht rfl rfl rfl rfl) ?_
  intro a ht
  refine wpList_nil ?_
  refine then_normal ?_
  refine wp_seq ?_
  by_cases h2 : xs0_1 < (sizes.length : Int)
  · replace H := ite_yes h2 H
    refine wpc_yes ht rfl (decide_eq_true h2) ?_
    refine wp_skip ?_
    refine then_normal ?_
    refine wp_seq ?_
    refine wp_block ?_
    refine wp_seq ?_
    refine wpr ?_
    refine wpl rfl rfl ht (ev_move ht rfl rfl) ?_
    intro a ht
    obtain ⟨t3, et3, H⟩ := bind_get H
    refine wpl rfl rfl ht (ev_index_ints ht rfl rfl rfl so_25 (hm.fact (φ := IntsAt A c m sizes) 0 rfl) et3) ?_
    intro a ht
    refine wpl rfl rfl ht (ev_load ht rfl rfl sc_2 (RowAt.cell (hm.fact (φ := IntsAt A c m sizes) 0 rfl) (ints_get et3) rfl)) ?_
    intro a ht
    refine wpl rfl rfl ht (ev_assign ht rfl rfl) ?_
    intro a ht
    refine wpl rfl rfl ht (ev_assign ht rfl rfl) ?_
    intro a ht
    refine wpList_nil ?_
    refine then_normal ?_
    refine wp_seq ?_
    refine wpr ?_
    refine wpl rfl rfl ht (ev_move ht rfl rfl) ?_
    intro a ht
    refine wpl rfl rfl ht (ev_move ht rfl rfl) ?_
    intro a ht
    refine wpl rfl rfl ht (ev_move ht rfl rfl) ?_
    intro a ht
    obtain ⟨t4, et4, H⟩ := bind_get H
    have hcall := impl_Colouring_firstOf.calls q1 _ _ b x xs0_1 t3 _ ((hm.pick (own' := [.blk b 28 (Col.cells x)] ++ []) [0] rfl (by decide)).give (passed := [.blk b 28 (Col.cells x)]) (rest := []) (φp := []) [] rfl) et4
    refine wpl_call _ rfl rfl ht rfl rfl rfl rfl can_69 hcall ?_
    clear hcall
    rintro _ w ⟨A5, c6, m7, rfl, hpost⟩ a ht
    replace hm := (hm.pick (own' := [.blk b 28 (Col.cells x)] ++ []) [0] rfl (by decide)).back hpost
    clear hpost
    refine wpl rfl rfl ht (ev_move ht rfl rfl) ?_
    intro a ht
    refine wpl rfl rfl ht (ev_extract ht rfl rfl rfl) ?_
    intro a ht
    refine wpl rfl rfl ht (ev_extract ht rfl rfl rfl) ?_
    intro a ht
    refine wpl rfl rfl ht (ev_assign ht rfl rfl) ?_
    intro a ht
    refine wpl rfl rfl ht (ev_assign ht rfl rfl) ?_
    intro a ht
    refine wpList_nil ?_
    refine then_normal ?_
    refine wp_seq ?_
    refine wpr ?_
    refine wpl rfl rfl ht (ev_move ht rfl rfl) ?_
    intro a ht
    refine wpList_nil ?_
    refine then_normal ?_
    by_cases h8 : t4.2 = true
    · replace H := ite_yes h8 H
      refine wpc_yes ht rfl h8 ?_
      refine wp_seq ?_
      refine wpr ?_
      refine wpl rfl rfl ht (ev_assign ht rfl rfl) ?_
      intro a ht
      refine wpList_nil ?_
      refine then_normal ?_
      refine wp_ret ?_
      refine blk_ret ?_
      refine then_ret ?_
      refine then_ret ?_
      refine blk_ret ?_
      refine then_ret ?_
      have hres := ht.res (P := Try.prog) (w := w) (rs := [.tmp 4]) (vs := [.bool false]) (.tmp rfl .nil)
      obtain rfl := Option.some.inj H
      exact leave ht rfl hres ⟨rfl, ((hm.pick [0] rfl (by decide)).pickφ [] rfl).post fun _ h => h⟩
    · replace H := ite_no h8 H
      refine wpc_no ht rfl (Bool.eq_false_iff.mpr h8) ?_
      refine wp_skip ?_
      refine blk_normal ?_
      refine then_normal ?_
      refine wpr ?_
      refine wpl rfl rfl ht (ev_arith ht rfl rfl rfl rfl) ?_
      intro a ht
      refine wpl rfl rfl ht (ev_move ht rfl rfl) ?_
      intro a ht
      refine wpList_nil ?_
      exact then_normal ⟨q1, by omega, (w64 (xs0_1 + 1)), H, by omega, ht.sub ⟨rfl, rfl, rfl, rfl, rfl, trivial⟩, (hm.pick [0] rfl (by decide)).pickφ [1] rfl⟩
  · replace H := ite_no h2 H
    refine wpc_no ht rfl (decide_eq_false h2) ?_
    refine wp_exit ?_
    refine then_exit ?_
    refine then_exit ?_
    refine blk_hit ?_
    refine then_normal ?_
    refine wp_seq ?_
    refine wpr ?_
    refine wpl rfl rfl ht (ev_assign ht rfl rfl) ?_
    intro a ht
    refine wpList_nil ?_
    refine then_normal ?_
    refine wp_ret ?_
    have hres := ht.res (P := Try.prog) (w := w) (rs := [.tmp 4]) (vs := [.bool true]) (.tmp rfl .nil)
    obtain rfl := Option.some.inj H
    exact leave ht rfl hres ⟨rfl, ((hm.pick [0] rfl (by decide)).pickφ [] rfl).post fun _ h => h⟩

/-! ### impl_Colouring_extendingCode__always: function 32 ((*loop.example/g01362/impl.Colouring).extendingCode) -/
def impl_Colouring_extendingCode__always.f (k : Nat) (x : Col) (sizes : List Int) (most : Int) : Option (Int) := (impl_Colouring_sizesCode__always.f k x sizes).bind fun t1 => if t1 ≠ 0 then (some t1) else ((impl_Colouring_avoids.f k x sizes).bind fun t3 => if t3 = true then (if x.p > most then (some 3) else (some 0)) else (some 5))
set_option maxRecDepth 100000 in
set_option maxHeartbeats 1000000 in
theorem impl_Colouring_extendingCode__always.calls (k : Nat) (X : List Nat) (w0 : World) (b : Nat) (A : Option Addr) (c : Nat) (m : Nat) (x : Col) (sizes : List Int) (most : Int) (r : Int)
    (hp : Pre X w0 [.blk b 28 (Col.cells x)] [IntsAt A c m sizes]) (H : impl_Colouring_extendingCode__always.f k x sizes most = some r) :
    Calls Try.prog 32 [.pointer (some ⟨b, 0, none⟩), .slice A m c, .func (.func 33) #[] #[], .int .i64 most].toArray w0 (Ret fun v w => v = .int .i64 r ∧ Post X (fps [.blk b 28 (Col.cells x)]) w0 [.blk b 28 (Col.cells x)] [] w) := by
  unfold impl_Colouring_extendingCode__always.f at H
  refine enterM (n := 30) hp Try.func32 rfl rfl (Nat.le_of_ble_eq_true rfl) fun a w ht hm => ?_
  refine wp_seq ?_
  refine wpr ?_
  refine wpl rfl rfl ht (ev_assign ht rfl rfl) ?_
  intro a ht
  refine wpList_nil ?_
  refine then_normal ?_
  refine wp_seq ?_
  refine wpr ?_
  refine wpl rfl rfl ht (ev_move ht rfl rfl) ?_
  intro a ht
  refine wpl rfl rfl ht (ev_move ht rfl rfl) ?_
  intro a ht
  refine wpl rfl rfl ht (ev_move ht rfl rfl) ?_
  intro a ht
  obtain ⟨t1, et1, H⟩ := bind_get H
  have hcall := impl_Colouring_sizesCode__always.calls k _ _ b A c m x sizes _ ((fun (hq : Ms _ _ _ ([.blk b 28 (Col.cells x)] ++ []) _ _) => hq.lend (φp := [IntsAt A c m sizes]) (allRO_cons (hq.lendFact 0 rfl) (allRO_nil))) (hm.pick (own' := [.blk b 28 (Col.cells x)] ++ []) [0] rfl (by decide))) et1
  refine wpl_call _ rfl rfl ht rfl rfl rfl rfl can_43 hcall ?_
  clear hcall
  rintro _ w ⟨rfl, hpost⟩ a ht
  replace hm := (hm.pick (own' := [.blk b 28 (Col.cells x)] ++ []) [0] rfl (by decide)).backL hpost
  clear hpost
  refine wpl rfl rfl ht (ev_assign ht rfl rfl) ?_
  intro a ht
  refine wpList_nil ?_
  refine then_normal ?_
  refine wp_seq ?_
  refine wp_block ?_
  refine wp_seq ?_
  refine wpr ?_
  refine wpl rfl rfl ht (ev_move ht rfl rfl) ?_
  intro a ht
  refine wpl rfl rfl ht (ev_cmp ht rfl rfl rfl rfl) ?_
  intro a ht
  refine wpl rfl rfl ht (ev_assign ht rfl rfl) ?_
  intro a ht
  refine wpList_nil ?_
  refine then_normal ?_
  by_cases h2 : t1 ≠ 0
  · replace H := ite_yes h2 H
    refine wpc_yes ht rfl (decide_eq_true h2) ?_
    refine wp_seq ?_
    refine wpr ?_
    refine wpl rfl rfl ht (ev_move ht rfl rfl) ?_
    intro a ht
    refine wpl rfl rfl ht (ev_assign ht rfl rfl) ?_
    intro a ht
    refine wpList_nil ?_
    refine then_normal ?_
    refine wp_ret ?_
    refine blk_ret ?_
    refine then_ret ?_
    have hres := ht.res (P := Try.prog) (w := w) (rs := [.tmp 8]) (vs := [.int .i64 t1]) (.tmp rfl .nil)
    obtain rfl := Option.some.inj H
    exact leave ht rfl hres ⟨rfl, ((hm.pick [0] rfl (by decide)).pickφ [] rfl).post fun _ h => h⟩
  · replace H := ite_no h2 H
    refine wpc_no ht rfl (decide_eq_false h2) ?_
    refine wp_seq ?_
    refine wpr ?_
    refine wpl rfl rfl ht (ev_move ht rfl rfl) ?_
    intro a ht
    refine wpl rfl rfl ht (ev_move ht rfl rfl) ?_
    intro a ht
    obtain ⟨t3, et3, H⟩ := bind_get H
    have hcall := impl_Colouring_avoids.calls k _ _ b A c m x sizes _ ((fun (hq : Ms _ _ _ ([.blk b 28 (Col.cells x)] ++ []) _ _) => hq.lend (φp := [IntsAt A c m sizes]) (allRO_cons (hq.lendFact 0 rfl) (allRO_nil))) (hm.pick (own' := [.blk b 28 (Col.cells x)] ++ []) [0] rfl (by decide))) et3
    refine wpl_call _ rfl rfl ht rfl rfl rfl rfl can_42 hcall ?_
    clear hcall
    rintro _ w ⟨rfl, hpost⟩ a ht
    replace hm := (hm.pick (own' := [.blk b 28 (Col.cells x)] ++ []) [0] rfl (by decide)).backL hpost
    clear hpost
    refine wpl rfl rfl ht (ev_not ht rfl rfl) ?_
    intro a ht
    refine wpl rfl rfl ht (ev_assign ht rfl rfl) ?_
    intro a ht
    refine wpList_nil ?_
    refine then_normal ?_
    by_cases h4 : t3 = true
    · replace H := ite_yes h4 H
      refine wpc_no ht rfl (not_t h4) ?_
      refine wp_seq ?_
      refine wpr ?_
      refine wpl rfl rfl ht (ev_move ht rfl rfl) ?_
      intro a ht
      refine wpl rfl rfl ht (ev_nilCheck ht rfl rfl) ?_
      intro a ht
      refine wpl rfl rfl ht (ev_fieldAddr ht rfl rfl fo_28_0) ?_
      intro a ht
      refine wpl rfl rfl ht (ev_load ht rfl rfl sc_2 (hm.blk_cell 0 rfl rfl)) ?_
      intro a ht
      refine wpl rfl rfl ht (ev_move ht rfl rfl) ?_
      intro a ht
      refine wpl rfl rfl ht (ev_cmp ht rfl rfl rfl rfl) ?_
      intro a ht
      refine wpl rfl rfl ht (ev_assign ht rfl rfl) ?_
      intro a ht
      refine wpList_nil ?_
      refine then_normal ?_
      by_cases h5 : x.p > most
      · replace H := ite_yes h5 H
        refine wpc_yes ht rfl (decide_eq_true h5) ?_
        refine wp_seq ?_
        refine wpr ?_
        refine wpl rfl rfl ht (ev_assign ht rfl rfl) ?_
        intro a ht
        refine wpList_nil ?_
        refine then_normal ?_
        refine wp_ret ?_
        refine blk_ret ?_
        refine then_ret ?_
        have hres := ht.res (P := Try.prog) (w := w) (rs := [.tmp 8]) (vs := [.int .i64 3]) (.tmp rfl .nil)
        obtain rfl := Option.some.inj H
        exact leave ht rfl hres ⟨rfl, ((hm.pick [0] rfl (by decide)).pickφ [] rfl).post fun _ h => h⟩
      · replace H := ite_no h5 H
        refine wpc_no ht rfl (decide_eq_false h5) ?_
        refine wp_skip ?_
        refine blk_normal ?_
        refine then_normal ?_
        refine wp_seq ?_
        refine wpr ?_
        refine wpl rfl rfl ht (ev_assign ht rfl rfl) ?_
        intro a ht
        refine wpList_nil ?_
        refine then_normal ?_
        refine wp_ret ?_
        have hres := ht.res (P := Try.prog) (w := w) (rs := [.tmp 8]) (vs := [.int .i64 0]) (.tmp rfl .nil)
        obtain rfl := Option.some.inj H
        exact leave ht rfl hres ⟨rfl, ((hm.pick [0] rfl (by decide)).pickφ [] rfl).post fun _ h => h⟩
    · replace H := ite_no h4 H
      refine wpc_yes ht rfl (not_f (Bool.eq_false_iff.mpr h4)) ?_
      refine wp_seq ?_
      refine wpr ?_
      refine wpl rfl rfl ht (ev_assign ht rfl rfl) ?_
      intro a ht
      refine wpList_nil ?_
      refine then_normal ?_
      refine wp_ret ?_
      refine blk_ret ?_
      refine then_ret ?_
      have hres := ht.res (P := Try.prog) (w := w) (rs := [.tmp 8]) (vs := [.int .i64 5]) (.tmp rfl .nil)
      obtain rfl := Option.some.inj H
      exact leave ht rfl hres ⟨rfl, ((hm.pick [0] rfl (by decide)).pickφ [] rfl).post fun _ h => h⟩

end Go.Proofs.Ytocjhmeekecdiaa.G
