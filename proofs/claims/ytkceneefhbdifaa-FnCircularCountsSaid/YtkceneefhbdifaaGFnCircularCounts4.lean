/- What each Go function computes, as a Lean function, and the proof that it does: written by a program of this session (wip/gen), part 4. -/
import Derived.Test.YtkceneefhbdifaaGFnCircularCounts3
namespace Go.Proofs.Ytkceneefhbdifaa.G
open Go Go.RowKit Go.Proofs.Ytkceneefhbdifaa.K
set_option linter.unusedVariables false
set_option linter.unusedSimpArgs false

/-! ### impl_Colouring_cliques__Colouring_firstOf_1: function 52 ((*loop.example/g01362/impl.Colouring).cliques) -/
mutual
def impl_Colouring_cliques__Colouring_firstOf_1.l0 : Nat → Col → Int → List Int → Int → List Int → Int → Option (Bool × List Int)
  | 0, _, _, _, _, _, _ => none
  | q9 + 1, x, c, list, with_, ls0_4, xs0_5 => if xs0_5 < x.p then ((impl_Colouring_goesWith.f q9 x c list xs0_5).bind fun t12 => if t12 = true then ((slices_Clone_int64_int64.f list).bind fun t15 => (push t15 xs0_5).bind fun l23 => (impl_Colouring_cliques__Colouring_firstOf_1.f q9 x c l23 with_ ls0_4).bind fun t24 => if t24.1 = true then (impl_Colouring_cliques__Colouring_firstOf_1.l0 q9 x c list with_ t24.2 (w64 (xs0_5 + 1))) else (some (false, t24.2))) else (impl_Colouring_cliques__Colouring_firstOf_1.l0 q9 x c list with_ ls0_4 (w64 (xs0_5 + 1)))) else (some (true, ls0_4))
def impl_Colouring_cliques__Colouring_firstOf_1.l1 : Nat → Col → Int → List Int → Int → List Int → Int → Option (Bool × List Int)
  | 0, _, _, _, _, _, _ => none
  | q29 + 1, x, c, list, with_, ls1_4, xs1_5 => if xs1_5 < x.p then ((impl_Colouring_goesWith.f q29 x c list xs1_5).bind fun t32 => if t32 = true then ((slices_Clone_int64_int64.f list).bind fun t35 => (push t35 xs1_5).bind fun l43 => (impl_Colouring_cliques__Colouring_firstOf_1.f q29 x c l43 with_ ls1_4).bind fun t44 => if t44.1 = true then (impl_Colouring_cliques__Colouring_firstOf_1.l1 q29 x c list with_ t44.2 (w64 (xs1_5 + 1))) else (some (false, t44.2))) else (impl_Colouring_cliques__Colouring_firstOf_1.l1 q29 x c list with_ ls1_4 (w64 (xs1_5 + 1)))) else (some (true, ls1_4))
def impl_Colouring_cliques__Colouring_firstOf_1.f : Nat → Col → Int → List Int → Int → List Int → Option (Bool × List Int)
  | 0, _, _, _, _, _ => none
  | k + 1, x, c, list, with_, with_2 => (impl_Colouring_firstOf_1.f list with_ with_2).bind fun t1 => if t1.1 = true then (if (list.length : Int) > 0 then ((getI list (w64 ((list.length : Int) - 1))).bind fun t8 => impl_Colouring_cliques__Colouring_firstOf_1.l0 k x c list with_ t1.2 (w64 (t8 + 1))) else (impl_Colouring_cliques__Colouring_firstOf_1.l1 k x c list with_ t1.2 0)) else (some (false, t1.2))
end
set_option maxRecDepth 100000 in
set_option maxHeartbeats 20000000 in
theorem impl_Colouring_cliques__Colouring_firstOf_1.calls (k : Nat) (X : List Nat) (w0 : World) (B : Nat) (b : Nat) (A : Option Addr) (c2 : Nat) (m : Nat) (b2 : Nat) (b3 : Nat) (A2 : Option Addr) (c3 : Nat) (m2 : Nat) (x : Col) (c : Int) (list : List Int) (with_ : Int) (with_2 : List Int) (r : Bool × List Int)
    (hp : Pre X w0 [.blk b 29 (Col.cells x), .blk b2 2 [.int .i64 with_], .blk b3 24 [.slice A2 m2 c3]] [OwnAt B 2 A c2 m list, OwnAt B 2 A2 c3 m2 with_2]) (hB : B ≤ w0.heap.size) (H : impl_Colouring_cliques__Colouring_firstOf_1.f k x c list with_ with_2 = some r) :
    Calls Try.prog 52 [.pointer (some ⟨b, 0, none⟩), .int .i64 c, .slice A m c2, .func (.func 53) [].toArray [.pointer (some ⟨b2, 0, none⟩), .pointer (some ⟨b3, 0, none⟩)].toArray].toArray w0 (Ret fun v w => ∃ (B_2_0 : Option Addr) (d_2_0 : Nat) (m_2_0 : Nat), v = .bool r.1 ∧ Post X (fps [.blk b 29 (Col.cells x), .blk b2 2 [.int .i64 with_], .blk b3 24 [.slice A2 m2 c3]]) w0 [.blk b 29 (Col.cells x), .blk b2 2 [.int .i64 with_], .blk b3 24 [.slice B_2_0 m_2_0 d_2_0]] [OwnAt B 2 B_2_0 d_2_0 m_2_0 r.2] w) := by
  induction k using Nat.strongRecOn generalizing X w0 B b A c2 m b2 b3 A2 c3 m2 x c list with_ with_2 r with
  | _ k ih =>
  cases k with
  | zero => cases H
  | succ k =>
  rw [impl_Colouring_cliques__Colouring_firstOf_1.f] at H
  refine enterM (n := 51) hp Try.func52 rfl rfl (Nat.le_of_ble_eq_true rfl) fun a w ht hm => ?_
  induction k using Nat.strongRecOn with
  | _ k ih =>
  refine wp_seq ?_
  refine wpr ?_
  refine wpl rfl rfl ht (ev_assign ht rfl rfl) ?_
  intro a ht
  refine wpList_nil ?_
  refine then_normal ?_
  refine wp_seq ?_
  refine wp_seq ?_
  refine wpr ?_
  refine wpl rfl rfl ht (ev_move ht rfl rfl) ?_
  intro a ht
  refine wpl rfl rfl ht (ev_move ht rfl rfl) ?_
  intro a ht
  obtain ⟨t1, et1, H⟩ := bind_get H
  have hcall := impl_Colouring_firstOf_1.calls _ _ B A c2 m b2 b3 A2 c3 m2 list with_ with_2 _ ((hm.pick (own' := [.blk b2 2 [.int .i64 with_], .blk b3 24 [.slice A2 m2 c3]] ++ [.blk b 29 (Col.cells x)]) [1, 2, 0] rfl (by decide)).give (passed := [.blk b2 2 [.int .i64 with_], .blk b3 24 [.slice A2 m2 c3]]) (rest := [.blk b 29 (Col.cells x)]) (φp := [OwnAt B 2 A c2 m list, OwnAt B 2 A2 c3 m2 with_2]) [0, 1] rfl) (Nat.le_trans hB hm.mod.size) et1
  refine wpl_call _ rfl rfl ht rfl rfl rfl rfl can_53 hcall ?_
  clear hcall
  rintro _ w ⟨A3, c4, m5, rfl, hpost⟩ a ht
  replace hm := (hm.pick (own' := [.blk b2 2 [.int .i64 with_], .blk b3 24 [.slice A2 m2 c3]] ++ [.blk b 29 (Col.cells x)]) [1, 2, 0] rfl (by decide)).back hpost
  clear hpost
  refine wpl rfl rfl ht (ev_not ht rfl rfl) ?_
  intro a ht
  refine wpList_nil ?_
  refine then_normal ?_
  by_cases h6 : t1.1 = true
  · replace H := ite_yes h6 H
    refine wpc_no ht rfl (not_t h6) ?_
    refine wp_skip ?_
    refine then_normal ?_
    refine wp_seq ?_
    refine wpr ?_
    refine wpl rfl rfl ht (ev_assign ht rfl rfl) ?_
    intro a ht
    refine wpList_nil ?_
    refine then_normal ?_
    refine wp_seq ?_
    refine wp_seq ?_
    refine wpr ?_
    refine wpl rfl rfl ht (ev_move ht rfl rfl) ?_
    intro a ht
    refine wpl rfl rfl ht (ev_len_of ht rfl rfl und_24 (OwnAt.row (hm.fact (φ := OwnAt B 2 A c2 m list) 1 rfl))) ?_
    intro a ht
    refine wpl rfl rfl ht (ev_cmp ht rfl rfl rfl rfl) ?_
    intro a ht
    refine wpList_nil ?_
    refine then_normal ?_
    by_cases h7 : (list.length : Int) > 0
    · replace H := ite_yes h7 H
      refine wpc_yes ht rfl (decide_eq_true h7) ?_
      refine wpr ?_
      refine wpl rfl rfl ht (ev_move ht rfl rfl) ?_
      intro a ht
      refine wpl rfl rfl ht (ev_move ht rfl rfl) ?_
      intro a ht
      refine wpl rfl rfl ht (ev_len_of ht rfl rfl und_24 (OwnAt.row (hm.fact (φ := OwnAt B 2 A c2 m list) 1 rfl))) ?_
      intro a ht
      refine wpl rfl rfl ht (ev_arith ht rfl rfl rfl rfl) ?_
      intro a ht
      obtain ⟨t8, et8, H⟩ := bind_get H
      refine wpl rfl rfl ht (ev_index_ints ht rfl rfl rfl so_24 (OwnAt.row (hm.fact (φ := OwnAt B 2 A c2 m list) 1 rfl)) et8) ?_
      intro a ht
      refine wpl rfl rfl ht (ev_load ht rfl rfl sc_2 (RowAt.cell (OwnAt.row (hm.fact (φ := OwnAt B 2 A c2 m list) 1 rfl)) (ints_get et8) rfl)) ?_
      intro a ht
      refine wpl rfl rfl ht (ev_arith ht rfl rfl rfl rfl) ?_
      intro a ht
      refine wpl rfl rfl ht (ev_assign ht rfl rfl) ?_
      intro a ht
      refine wpList_nil ?_
      refine then_normal ?_
      refine wp_seq ?_
      refine wp_seq ?_
      refine wpr ?_
      refine wpl rfl rfl ht (ev_move ht rfl rfl) ?_
      intro a ht
      refine wpl rfl rfl ht (ev_assign ht rfl rfl) ?_
      intro a ht
      refine wpList_nil ?_
      refine then_normal ?_
      refine wp_block ?_
      refine wpLoop (fun q a w => ∃ (ls0_4 : List Int) (xs0_5 : Int) (As0_1 : Option Addr) (cs0_2 : Nat) (ms0_3 : Nat), impl_Colouring_cliques__Colouring_firstOf_1.l0 q x c list with_ ls0_4 xs0_5 = some r ∧ q ≤ k ∧ Tm 51 [(0, .pointer (some ⟨b, 0, none⟩)), (1, .int .i64 c), (2, .slice A m c2), (3, .func (.func 53) [].toArray [.pointer (some ⟨b2, 0, none⟩), .pointer (some ⟨b3, 0, none⟩)].toArray), (8, .bool false), (10, .int .i64 xs0_5)] a ∧ Ms X (fps [.blk b 29 (Col.cells x), .blk b2 2 [.int .i64 with_], .blk b3 24 [.slice A2 m2 c3]]) w0 [.blk b2 2 [.int .i64 with_], .blk b3 24 [.slice As0_1 ms0_3 cs0_2], .blk b 29 (Col.cells x)] [OwnAt B 2 A c2 m list, OwnAt B 2 As0_1 cs0_2 ms0_3 ls0_4, OwnAt B 2 A2 c3 m2 with_2] w) (k0 := k) ⟨t1.2, (w64 (t8 + 1)), A3, c4, m5, H, Nat.le_refl _, ht.sub ⟨rfl, rfl, rfl, rfl, rfl, rfl, trivial⟩, (hm.pick [0, 1, 2] rfl (by decide)).pickφ [1, 0, 2] rfl⟩ ?_
      clear H ht hm
      intro q9 a w hJ
      obtain ⟨ls0_4, xs0_5, As0_1, cs0_2, ms0_3, H, hqq9, ht, hm⟩ := hJ
      cases q9 with
      | zero => cases H
      | succ q9 =>
      rw [impl_Colouring_cliques__Colouring_firstOf_1.l0] at H
      refine wp_seq ?_
      refine wp_seq ?_
      refine wpr ?_
      refine wpl rfl rfl ht (ev_move ht rfl rfl) ?_
      intro a ht
      refine wpl rfl rfl ht (ev_move ht rfl rfl) ?_
      intro a ht
      refine wpl rfl rfl ht (ev_nilCheck ht rfl rfl) ?_
      intro a ht
      refine wpl rfl rfl ht (ev_fieldAddr ht rfl rfl fo_29_0) ?_
      intro a ht
      refine wpl rfl rfl ht (ev_load ht rfl rfl sc_2 (hm.blk_cell 2 rfl rfl)) ?_
      intro a ht
      refine wpl rfl rfl ht (ev_cmp ht rfl rfl rfl rfl) ?_
      intro a ht
      refine wpList_nil ?_
      refine then_normal ?_
      by_cases h10 : xs0_5 < x.p
      · replace H := ite_yes h10 H
        refine wpc_yes ht rfl (decide_eq_true h10) ?_
        refine wp_skip ?_
        refine then_normal ?_
        refine wp_seq ?_
        refine wp_block ?_
        refine wp_seq ?_
        refine wpr ?_
        refine wpl rfl rfl ht (ev_move ht rfl rfl) ?_
        intro a ht
        refine wpl rfl rfl ht (ev_move ht rfl rfl) ?_
        intro a ht
        refine wpl rfl rfl ht (ev_move ht rfl rfl) ?_
        intro a ht
        refine wpl rfl rfl ht (ev_move ht rfl rfl) ?_
        intro a ht
        replace hm : Ms _ _ _ _ (IntsAt A c2 m list :: _) w := hm.addφ ((hm.ro (φ := OwnAt B 2 A c2 m list) 0 rfl).mono fun w h => OwnAt.row h)
        obtain ⟨t12, et12, H⟩ := bind_get H
        have hcall := impl_Colouring_goesWith.calls q9 _ _ b A c2 m x c list xs0_5 _ ((fun (hq : Ms _ _ _ ([.blk b 29 (Col.cells x)] ++ [.blk b2 2 [.int .i64 with_], .blk b3 24 [.slice As0_1 ms0_3 cs0_2]]) _ _) => hq.lend (φp := [IntsAt A c2 m list]) (allRO_cons (hq.lendFact 0 rfl) (allRO_nil))) (hm.pick (own' := [.blk b 29 (Col.cells x)] ++ [.blk b2 2 [.int .i64 with_], .blk b3 24 [.slice As0_1 ms0_3 cs0_2]]) [2, 0, 1] rfl (by decide))) et12
        refine wpl_call _ rfl rfl ht rfl rfl rfl rfl can_60 hcall ?_
        clear hcall
        rintro _ w ⟨rfl, hpost⟩ a ht
        replace hm := (hm.pick (own' := [.blk b 29 (Col.cells x)] ++ [.blk b2 2 [.int .i64 with_], .blk b3 24 [.slice As0_1 ms0_3 cs0_2]]) [2, 0, 1] rfl (by decide)).backL hpost
        clear hpost
        refine wpl rfl rfl ht (ev_move ht rfl rfl) ?_
        intro a ht
        by_cases h13 : t12 = true
        · replace H := ite_yes h13 H
          refine wpl_yes rfl ht rfl (h13) ?_
          refine wpl rfl rfl ht (ev_move ht rfl rfl) ?_
          intro a ht
          refine wpl_yes rfl ht rfl (h13) ?_
          refine wpl rfl rfl ht (ev_move ht rfl rfl) ?_
          intro a ht
          refine wpl_yes rfl ht rfl (h13) ?_
          refine wpl rfl rfl ht (ev_move ht rfl rfl) ?_
          intro a ht
          refine wpl_yes rfl ht rfl (h13) ?_
          replace hm : Ms _ _ _ _ (IntsAt A c2 m list :: _) w := hm.addφ ((hm.ro (φ := OwnAt B 2 A c2 m list) 1 rfl).mono fun w h => OwnAt.row h)
          obtain ⟨t15, et15, H⟩ := bind_get H
          have hcall := slices_Clone_int64_int64.calls _ _ A c2 m list _ ((fun (hq : Ms _ _ _ ([] ++ [.blk b 29 (Col.cells x), .blk b2 2 [.int .i64 with_], .blk b3 24 [.slice As0_1 ms0_3 cs0_2]]) _ _) => hq.lend (φp := [IntsAt A c2 m list]) (allRO_cons (hq.lendFact 0 rfl) (allRO_nil))) (hm.pick (own' := [] ++ [.blk b 29 (Col.cells x), .blk b2 2 [.int .i64 with_], .blk b3 24 [.slice As0_1 ms0_3 cs0_2]]) [0, 1, 2] rfl (by decide))) et15
          refine wpl_call _ rfl rfl ht rfl rfl rfl rfl can_61 hcall ?_
          clear hcall
          rintro _ w ⟨A16, c17, m18, rfl, hpost⟩ a ht
          replace hm := (hm.pick (own' := [] ++ [.blk b 29 (Col.cells x), .blk b2 2 [.int .i64 with_], .blk b3 24 [.slice As0_1 ms0_3 cs0_2]]) [0, 1, 2] rfl (by decide)).backL hpost
          clear hpost
          refine wpl_yes rfl ht rfl (h13) ?_
          refine wpl rfl rfl ht (ev_move ht rfl rfl) ?_
          intro a ht
          refine wpl_yes rfl ht rfl (h13) ?_
          refine wpl_build_ints (l := [xs0_5]) rfl rfl ht hm rfl und_24 zo_2 sz1_2 (by decide) rfl rfl rfl ?_
          intro A19 a ht w hm
          refine wpl_yes rfl ht rfl (h13) ?_
          obtain ⟨l23, el23, H⟩ := bind_get H
          refine wpl_push (r := l23) 1 0 rfl rfl ht hm rfl ap_24 rfl rfl rfl rfl el23 ?_
          intro A20 c21 m22 a ht w hm
          refine wpl_yes rfl ht rfl (h13) ?_
          refine wpl rfl rfl ht (ev_move ht rfl rfl) ?_
          intro a ht
          refine wpl_yes rfl ht rfl (h13) ?_
          replace hm : Ms _ _ _ _ (OwnAt B 2 A20 c21 m22 l23 :: _) w := hm.shutOwn 1 (hm.ownGe 1 hB (srcIn 1 rfl rfl (srcIn 2 rfl rfl (srcIn 3 rfl rfl srcNil))) rfl) rfl
          obtain ⟨t24, et24, H⟩ := bind_get H
          have hcall := ih q9 (by omega) _ _ B b A20 c21 m22 b2 b3 As0_1 cs0_2 ms0_3 x c l23 with_ ls0_4 _ ((hm.pick (own' := [.blk b 29 (Col.cells x), .blk b2 2 [.int .i64 with_], .blk b3 24 [.slice As0_1 ms0_3 cs0_2]] ++ [.vec A19 1 2 1 1 (ints ([xs0_5]))]) [1, 2, 3, 0] rfl (by decide)).give (passed := [.blk b 29 (Col.cells x), .blk b2 2 [.int .i64 with_], .blk b3 24 [.slice As0_1 ms0_3 cs0_2]]) (rest := [.vec A19 1 2 1 1 (ints ([xs0_5]))]) (φp := [OwnAt B 2 A20 c21 m22 l23, OwnAt B 2 As0_1 cs0_2 ms0_3 ls0_4]) [0, 4] rfl) (Nat.le_trans hB hm.mod.size) et24
          refine wpl_call _ rfl rfl ht rfl rfl rfl rfl can_52 hcall ?_
          clear hcall
          rintro _ w ⟨A25, c26, m27, rfl, hpost⟩ a ht
          replace hm := (hm.pick (own' := [.blk b 29 (Col.cells x), .blk b2 2 [.int .i64 with_], .blk b3 24 [.slice As0_1 ms0_3 cs0_2]] ++ [.vec A19 1 2 1 1 (ints ([xs0_5]))]) [1, 2, 3, 0] rfl (by decide)).back hpost
          clear hpost
          refine wpl_yes rfl ht rfl (h13) ?_
          refine wpl rfl rfl ht (ev_not ht rfl rfl) ?_
          intro a ht
          refine wpl rfl rfl ht (ev_pick_yes ht rfl rfl h13 rfl) ?_
          intro a ht
          refine wpList_nil ?_
          refine then_normal ?_
          by_cases h28 : t24.1 = true
          · replace H := ite_yes h28 H
            refine wpc_no ht rfl (not_t h28) ?_
            refine wp_skip ?_
            refine blk_normal ?_
            refine then_normal ?_
            refine wpr ?_
            refine wpl rfl rfl ht (ev_move ht rfl rfl) ?_
            intro a ht
            refine wpl rfl rfl ht (ev_arith ht rfl rfl rfl rfl) ?_
            intro a ht
            refine wpl rfl rfl ht (ev_assign ht rfl rfl) ?_
            intro a ht
            refine wpList_nil ?_
            exact then_normal ⟨q9, by omega, t24.2, (w64 (xs0_5 + 1)), A25, c26, m27, H, by omega, ht.sub ⟨rfl, rfl, rfl, rfl, rfl, rfl, trivial⟩, (hm.pick [1, 2, 0] rfl (by decide)).pickφ [4, 0, 6] rfl⟩
          · replace H := ite_no h28 H
            refine wpc_yes ht rfl (not_f (Bool.eq_false_iff.mpr h28)) ?_
            refine wp_seq ?_
            refine wpr ?_
            refine wpl rfl rfl ht (ev_assign ht rfl rfl) ?_
            intro a ht
            refine wpList_nil ?_
            refine then_normal ?_
            refine wp_ret ?_
            refine blk_ret ?_
            refine then_ret ?_
            refine then_ret ?_
            refine blk_ret ?_
            refine then_ret ?_
            have hres := ht.res (P := Try.prog) (w := w) (rs := [.tmp 8]) (vs := [.bool false]) (.tmp rfl .nil)
            obtain rfl := Option.some.inj H
            exact leave ht rfl hres ⟨A25, c26, m27, rfl, ((hm.pick [0, 1, 2] rfl (by decide)).pickφ [0] rfl).post fun _ h => h⟩
        · replace H := ite_no h13 H
          refine wpl_no rfl rfl ht rfl (by rw [(Bool.eq_false_iff.mpr h13)]; decide) ?_
          intro a ht
          refine wpl_no rfl rfl ht rfl (by rw [(Bool.eq_false_iff.mpr h13)]; decide) ?_
          intro a ht
          refine wpl_no rfl rfl ht rfl (by rw [(Bool.eq_false_iff.mpr h13)]; decide) ?_
          intro a ht
          refine wpl_no rfl rfl ht rfl (by rw [(Bool.eq_false_iff.mpr h13)]; decide) ?_
          intro a ht
          refine wpl_no rfl rfl ht rfl (by rw [(Bool.eq_false_iff.mpr h13)]; decide) ?_
          intro a ht
          refine wpl_no rfl rfl ht rfl (by rw [(Bool.eq_false_iff.mpr h13)]; decide) ?_
          intro a ht
          refine wpl_no rfl rfl ht rfl (by rw [(Bool.eq_false_iff.mpr h13)]; decide) ?_
          intro a ht
          refine wpl_no rfl rfl ht rfl (by rw [(Bool.eq_false_iff.mpr h13)]; decide) ?_
          intro a ht
          refine wpl_no rfl rfl ht rfl (by rw [(Bool.eq_false_iff.mpr h13)]; decide) ?_
          intro a ht
          refine wpl_no rfl rfl ht rfl (by rw [(Bool.eq_false_iff.mpr h13)]; decide) ?_
          intro a ht
          refine wpl rfl rfl ht (ev_pick_no ht rfl rfl (Bool.eq_false_iff.mpr h13) rfl) ?_
          intro a ht
          refine wpList_nil ?_
          refine then_normal ?_
          refine wpc_no ht rfl rfl ?_
          refine wp_skip ?_
          refine blk_normal ?_
          refine then_normal ?_
          refine wpr ?_
          refine wpl rfl rfl ht (ev_move ht rfl rfl) ?_
          intro a ht
          refine wpl rfl rfl ht (ev_arith ht rfl rfl rfl rfl) ?_
          intro a ht
          refine wpl rfl rfl ht (ev_assign ht rfl rfl) ?_
          intro a ht
          refine wpList_nil ?_
          exact then_normal ⟨q9, by omega, ls0_4, (w64 (xs0_5 + 1)), As0_1, cs0_2, ms0_3, H, by omega, ht.sub ⟨rfl, rfl, rfl, rfl, rfl, rfl, trivial⟩, (hm.pick [1, 2, 0] rfl (by decide)).pickφ [1, 2, 3] rfl⟩
      · replace H := ite_no h10 H
        refine wpc_no ht rfl (decide_eq_false h10) ?_
        refine wp_exit ?_
        refine then_exit ?_
        refine then_exit ?_
        refine blk_hit ?_
        refine then_normal ?_
        refine wp_seq ?_
        refine wpr ?_
        refine wpl rfl rfl ht (ev_assign ht rfl rfl) ?_
        intro a ht
        refine wpList_nil ?_
        refine then_normal ?_
        refine wp_ret ?_
        have hres := ht.res (P := Try.prog) (w := w) (rs := [.tmp 8]) (vs := [.bool true]) (.tmp rfl .nil)
        obtain rfl := Option.some.inj H
        exact leave ht rfl hres ⟨As0_1, cs0_2, ms0_3, rfl, ((hm.pick [2, 0, 1] rfl (by decide)).pickφ [1] rfl).post fun _ h => h⟩
    · replace H := ite_no h7 H
      refine wpc_no ht rfl (decide_eq_false h7) ?_
      refine wp_skip ?_
      refine then_normal ?_
      refine wp_seq ?_
      refine wp_seq ?_
      refine wpr ?_
      refine wpl rfl rfl ht (ev_move ht rfl rfl) ?_
      intro a ht
      refine wpl rfl rfl ht (ev_assign ht rfl rfl) ?_
      intro a ht
      refine wpList_nil ?_
      refine then_normal ?_
      refine wp_block ?_
      refine wpLoop (fun q a w => ∃ (ls1_4 : List Int) (xs1_5 : Int) (As1_1 : Option Addr) (cs1_2 : Nat) (ms1_3 : Nat), impl_Colouring_cliques__Colouring_firstOf_1.l1 q x c list with_ ls1_4 xs1_5 = some r ∧ q ≤ k ∧ Tm 51 [(0, .pointer (some ⟨b, 0, none⟩)), (1, .int .i64 c), (2, .slice A m c2), (3, .func (.func 53) [].toArray [.pointer (some ⟨b2, 0, none⟩), .pointer (some ⟨b3, 0, none⟩)].toArray), (8, .bool false), (10, .int .i64 xs1_5)] a ∧ Ms X (fps [.blk b 29 (Col.cells x), .blk b2 2 [.int .i64 with_], .blk b3 24 [.slice A2 m2 c3]]) w0 [.blk b2 2 [.int .i64 with_], .blk b3 24 [.slice As1_1 ms1_3 cs1_2], .blk b 29 (Col.cells x)] [OwnAt B 2 A c2 m list, OwnAt B 2 As1_1 cs1_2 ms1_3 ls1_4, OwnAt B 2 A2 c3 m2 with_2] w) (k0 := k) ⟨t1.2, 0, A3, c4, m5, H, Nat.le_refl _, ht.sub ⟨rfl, rfl, rfl, rfl, rfl, rfl, trivial⟩, (hm.pick [0, 1, 2] rfl (by decide)).pickφ [1, 0, 2] rfl⟩ ?_
      clear H ht hm
      intro q29 a w hJ
      obtain ⟨ls1_4, xs1_5, As1_1, cs1_2, ms1_3, H, hqq29, ht, hm⟩ := hJ
      cases q29 with
      | zero => cases H
      | succ q29 =>
      rw [impl_Colouring_cliques__Colouring_firstOf_1.l1] at H
      refine wp_seq ?_
      refine wp_seq ?_
      refine wpr ?_
      refine wpl rfl rfl ht (ev_move ht rfl rfl) ?_
      intro a ht
      refine wpl rfl rfl ht (ev_move ht rfl rfl) ?_
      intro a ht
      refine wpl rfl rfl ht (ev_nilCheck ht rfl rfl) ?_
      intro a ht
      refine wpl rfl rfl ht (ev_fieldAddr ht rfl rfl fo_29_0) ?_
      intro a ht
      refine wpl rfl rfl ht (ev_load ht rfl rfl sc_2 (hm.blk_cell 2 rfl rfl)) ?_
      intro a ht
      refine wpl rfl rfl ht (ev_cmp ht rfl rfl rfl rfl) ?_
      intro a ht
      refine wpList_nil ?_
      refine then_normal ?_
      by_cases h30 : xs1_5 < x.p
      · replace H := ite_yes h30 H
        refine wpc_yes ht rfl (decide_eq_true h30) ?_
        refine wp_skip ?_
        refine then_normal ?_
        refine wp_seq ?_
        refine wp_block ?_
        refine wp_seq ?_
        refine wpr ?_
        refine wpl rfl rfl ht (ev_move ht rfl rfl) ?_
        intro a ht
        refine wpl rfl rfl ht (ev_move ht rfl rfl) ?_
        intro a ht
        refine wpl rfl rfl ht (ev_move ht rfl rfl) ?_
        intro a ht
        refine wpl rfl rfl ht (ev_move ht rfl rfl) ?_
        intro a ht
        replace hm : Ms _ _ _ _ (IntsAt A c2 m list :: _) w := hm.addφ ((hm.ro (φ := OwnAt B 2 A c2 m list) 0 rfl).mono fun w h => OwnAt.row h)
        obtain ⟨t32, et32, H⟩ := bind_get H
        have hcall := impl_Colouring_goesWith.calls q29 _ _ b A c2 m x c list xs1_5 _ ((fun (hq : Ms _ _ _ ([.blk b 29 (Col.cells x)] ++ [.blk b2 2 [.int .i64 with_], .blk b3 24 [.slice As1_1 ms1_3 cs1_2]]) _ _) => hq.lend (φp := [IntsAt A c2 m list]) (allRO_cons (hq.lendFact 0 rfl) (allRO_nil))) (hm.pick (own' := [.blk b 29 (Col.cells x)] ++ [.blk b2 2 [.int .i64 with_], .blk b3 24 [.slice As1_1 ms1_3 cs1_2]]) [2, 0, 1] rfl (by decide))) et32
        refine wpl_call _ rfl rfl ht rfl rfl rfl rfl can_60 hcall ?_
        clear hcall
        rintro _ w ⟨rfl, hpost⟩ a ht
        replace hm := (hm.pick (own' := [.blk b 29 (Col.cells x)] ++ [.blk b2 2 [.int .i64 with_], .blk b3 24 [.slice As1_1 ms1_3 cs1_2]]) [2, 0, 1] rfl (by decide)).backL hpost
        clear hpost
        refine wpl rfl rfl ht (ev_move ht rfl rfl) ?_
        intro a ht
        by_cases h33 : t32 = true
        · replace H := ite_yes h33 H
          refine wpl_yes rfl ht rfl (h33) ?_
          refine wpl rfl rfl ht (ev_move ht rfl rfl) ?_
          intro a ht
          refine wpl_yes rfl ht rfl (h33) ?_
          refine wpl rfl rfl ht (ev_move ht rfl rfl) ?_
          intro a ht
          refine wpl_yes rfl ht rfl (h33) ?_
          refine wpl rfl rfl ht (ev_move ht rfl rfl) ?_
          intro a ht
          refine wpl_yes rfl ht rfl (h33) ?_
          replace hm : Ms _ _ _ _ (IntsAt A c2 m list :: _) w := hm.addφ ((hm.ro (φ := OwnAt B 2 A c2 m list) 1 rfl).mono fun w h => OwnAt.row h)
          obtain ⟨t35, et35, H⟩ := bind_get H
          have hcall := slices_Clone_int64_int64.calls _ _ A c2 m list _ ((fun (hq : Ms _ _ _ ([] ++ [.blk b 29 (Col.cells x), .blk b2 2 [.int .i64 with_], .blk b3 24 [.slice As1_1 ms1_3 cs1_2]]) _ _) => hq.lend (φp := [IntsAt A c2 m list]) (allRO_cons (hq.lendFact 0 rfl) (allRO_nil))) (hm.pick (own' := [] ++ [.blk b 29 (Col.cells x), .blk b2 2 [.int .i64 with_], .blk b3 24 [.slice As1_1 ms1_3 cs1_2]]) [0, 1, 2] rfl (by decide))) et35
          refine wpl_call _ rfl rfl ht rfl rfl rfl rfl can_61 hcall ?_
          clear hcall
          rintro _ w ⟨A36, c37, m38, rfl, hpost⟩ a ht
          replace hm := (hm.pick (own' := [] ++ [.blk b 29 (Col.cells x), .blk b2 2 [.int .i64 with_], .blk b3 24 [.slice As1_1 ms1_3 cs1_2]]) [0, 1, 2] rfl (by decide)).backL hpost
          clear hpost
          refine wpl_yes rfl ht rfl (h33) ?_
          refine wpl rfl rfl ht (ev_move ht rfl rfl) ?_
          intro a ht
          refine wpl_yes rfl ht rfl (h33) ?_
          refine wpl_build_ints (l := [xs1_5]) rfl rfl ht hm rfl und_24 zo_2 sz1_2 (by decide) rfl rfl rfl ?_
          intro A39 a ht w hm
          refine wpl_yes rfl ht rfl (h33) ?_
          obtain ⟨l43, el43, H⟩ := bind_get H
          refine wpl_push (r := l43) 1 0 rfl rfl ht hm rfl ap_24 rfl rfl rfl rfl el43 ?_
          intro A40 c41 m42 a ht w hm
          refine wpl_yes rfl ht rfl (h33) ?_
          refine wpl rfl rfl ht (ev_move ht rfl rfl) ?_
          intro a ht
          refine wpl_yes rfl ht rfl (h33) ?_
          replace hm : Ms _ _ _ _ (OwnAt B 2 A40 c41 m42 l43 :: _) w := hm.shutOwn 1 (hm.ownGe 1 hB (srcIn 1 rfl rfl (srcIn 2 rfl rfl (srcIn 3 rfl rfl srcNil))) rfl) rfl
          obtain ⟨t44, et44, H⟩ := bind_get H
          have hcall := ih q29 (by omega) _ _ B b A40 c41 m42 b2 b3 As1_1 cs1_2 ms1_3 x c l43 with_ ls1_4 _ ((hm.pick (own' := [.blk b 29 (Col.cells x), .blk b2 2 [.int .i64 with_], .blk b3 24 [.slice As1_1 ms1_3 cs1_2]] ++ [.vec A39 1 2 1 1 (ints ([xs1_5]))]) [1, 2, 3, 0] rfl (by decide)).give (passed := [.blk b 29 (Col.cells x), .blk b2 2 [.int .i64 with_], .blk b3 24 [.slice As1_1 ms1_3 cs1_2]]) (rest := [.vec A39 1 2 1 1 (ints ([xs1_5]))]) (φp := [OwnAt B 2 A40 c41 m42 l43, OwnAt B 2 As1_1 cs1_2 ms1_3 ls1_4]) [0, 4] rfl) (Nat.le_trans hB hm.mod.size) et44
          refine wpl_call _ rfl rfl ht rfl rfl rfl rfl can_52 hcall ?_
          clear hcall
          rintro _ w ⟨A45, c46, m47, rfl, hpost⟩ a ht
          replace hm := (hm.pick (own' := [.blk b 29 (Col.cells x), .blk b2 2 [.int .i64 with_], .blk b3 24 [.slice As1_1 ms1_3 cs1_2]] ++ [.vec A39 1 2 1 1 (ints ([xs1_5]))]) [1, 2, 3, 0] rfl (by decide)).back hpost
          clear hpost
          refine wpl_yes rfl ht rfl (h33) ?_
          refine wpl rfl rfl ht (ev_not ht rfl rfl) ?_
          intro a ht
          refine wpl rfl rfl ht (ev_pick_yes ht rfl rfl h33 rfl) ?_
          intro a ht
          refine wpList_nil ?_
          refine then_normal ?_
          by_cases h48 : t44.1 = true
          · replace H := ite_yes h48 H
            refine wpc_no ht rfl (not_t h48) ?_
            refine wp_skip ?_
            refine blk_normal ?_
            refine then_normal ?_
            refine wpr ?_
            refine wpl rfl rfl ht (ev_move ht rfl rfl) ?_
            intro a ht
            refine wpl rfl rfl ht (ev_arith ht rfl rfl rfl rfl) ?_
            intro a ht
            refine wpl rfl rfl ht (ev_assign ht rfl rfl) ?_
            intro a ht
            refine wpList_nil ?_
            exact then_normal ⟨q29, by omega, t44.2, (w64 (xs1_5 + 1)), A45, c46, m47, H, by omega, ht.sub ⟨rfl, rfl, rfl, rfl, rfl, rfl, trivial⟩, (hm.pick [1, 2, 0] rfl (by decide)).pickφ [4, 0, 6] rfl⟩
          · replace H := ite_no h48 H
            refine wpc_yes ht rfl (not_f (Bool.eq_false_iff.mpr h48)) ?_
            refine wp_seq ?_
            refine wpr ?_
            refine wpl rfl rfl ht (ev_assign ht rfl rfl) ?_
            intro a ht
            refine wpList_nil ?_
            refine then_normal ?_
            refine wp_ret ?_
            refine blk_ret ?_
            refine then_ret ?_
            refine then_ret ?_
            refine blk_ret ?_
            refine then_ret ?_
            have hres := ht.res (P := Try.prog) (w := w) (rs := [.tmp 8]) (vs := [.bool false]) (.tmp rfl .nil)
            obtain rfl := Option.some.inj H
            exact leave ht rfl hres ⟨A45, c46, m47, rfl, ((hm.pick [0, 1, 2] rfl (by decide)).pickφ [0] rfl).post fun _ h => h⟩
        · replace H := ite_no h33 H
          refine wpl_no rfl rfl ht rfl (by rw [(Bool.eq_false_iff.mpr h33)]; decide) ?_
          intro a ht
          refine wpl_no rfl rfl ht rfl (by rw [(Bool.eq_false_iff.mpr h33)]; decide) ?_
          intro a ht
          refine wpl_no rfl rfl ht rfl (by rw [(Bool.eq_false_iff.mpr h33)]; decide) ?_
          intro a ht
          refine wpl_no rfl rfl ht rfl (by rw [(Bool.eq_false_iff.mpr h33)]; decide) ?_
          intro a ht
          refine wpl_no rfl rfl ht rfl (by rw [(Bool.eq_false_iff.mpr h33)]; decide) ?_
          intro a ht
          refine wpl_no rfl rfl ht rfl (by rw [(Bool.eq_false_iff.mpr h33)]; decide) ?_
          intro a ht
          refine wpl_no rfl rfl ht rfl (by rw [(Bool.eq_false_iff.mpr h33)]; decide) ?_
          intro a ht
          refine wpl_no rfl rfl ht rfl (by rw [(Bool.eq_false_iff.mpr h33)]; decide) ?_
          intro a ht
          refine wpl_no rfl rfl ht rfl (by rw [(Bool.eq_false_iff.mpr h33)]; decide) ?_
          intro a ht
          refine wpl_no rfl rfl ht rfl (by rw [(Bool.eq_false_iff.mpr h33)]; decide) ?_
          intro a ht
          refine wpl rfl rfl ht (ev_pick_no ht rfl rfl (Bool.eq_false_iff.mpr h33) rfl) ?_
          intro a ht
          refine wpList_nil ?_
          refine then_normal ?_
          refine wpc_no ht rfl rfl ?_
          refine wp_skip ?_
          refine blk_normal ?_
          refine then_normal ?_
          refine wpr ?_
          refine wpl rfl rfl ht (ev_move ht rfl rfl) ?_
          intro a ht
          refine wpl rfl rfl ht (ev_arith ht rfl rfl rfl rfl) ?_
          intro a ht
          refine wpl rfl rfl ht (ev_assign ht rfl rfl) ?_
          intro a ht
          refine wpList_nil ?_
          exact then_normal ⟨q29, by omega, ls1_4, (w64 (xs1_5 + 1)), As1_1, cs1_2, ms1_3, H, by omega, ht.sub ⟨rfl, rfl, rfl, rfl, rfl, rfl, trivial⟩, (hm.pick [1, 2, 0] rfl (by decide)).pickφ [1, 2, 3] rfl⟩
      · replace H := ite_no h30 H
        refine wpc_no ht rfl (decide_eq_false h30) ?_
        refine wp_exit ?_
        refine then_exit ?_
        refine then_exit ?_
        refine blk_hit ?_
        refine then_normal ?_
        refine wp_seq ?_
        refine wpr ?_
        refine wpl rfl rfl ht (ev_assign ht rfl rfl) ?_
        intro a ht
        refine wpList_nil ?_
        refine then_normal ?_
        refine wp_ret ?_
        have hres := ht.res (P := Try.prog) (w := w) (rs := [.tmp 8]) (vs := [.bool true]) (.tmp rfl .nil)
        obtain rfl := Option.some.inj H
        exact leave ht rfl hres ⟨As1_1, cs1_2, ms1_3, rfl, ((hm.pick [2, 0, 1] rfl (by decide)).pickφ [1] rfl).post fun _ h => h⟩
  · replace H := ite_no h6 H
    refine wpc_yes ht rfl (not_f (Bool.eq_false_iff.mpr h6)) ?_
    refine wp_seq ?_
    refine wpr ?_
    refine wpl rfl rfl ht (ev_assign ht rfl rfl) ?_
    intro a ht
    refine wpList_nil ?_
    refine then_normal ?_
    refine wp_ret ?_
    refine then_ret ?_
    have hres := ht.res (P := Try.prog) (w := w) (rs := [.tmp 8]) (vs := [.bool false]) (.tmp rfl .nil)
    obtain rfl := Option.some.inj H
    exact leave ht rfl hres ⟨A3, c4, m5, rfl, ((hm.pick [2, 0, 1] rfl (by decide)).pickφ [0] rfl).post fun _ h => h⟩

/-! ### impl_Colouring_firstOf: function 39 ((*loop.example/g01362/impl.Colouring).firstOf) -/
def impl_Colouring_firstOf.f (k : Nat) (x : Col) (c : Int) (m : Int) : Option (List Int × Bool) := (impl_Colouring_cliques__Colouring_firstOf_1.f k x c ([] : List Int) m ([] : List Int)).bind fun t5 => some (t5.2, !t5.1)
set_option maxRecDepth 100000 in
set_option maxHeartbeats 20000000 in
theorem impl_Colouring_firstOf.calls (k : Nat) (X : List Nat) (w0 : World) (b : Nat) (x : Col) (c : Int) (m : Int) (r : List Int × Bool)
    (hp : Pre X w0 [.blk b 29 (Col.cells x)] []) (H : impl_Colouring_firstOf.f k x c m = some r) :
    Calls Try.prog 39 [.pointer (some ⟨b, 0, none⟩), .int .i64 c, .int .i64 m].toArray w0 (Ret fun v w => ∃ (A_0 : Option Addr) (c_0 : Nat) (n_0 : Nat), v = .tuple [.slice A_0 n_0 c_0, .bool r.2].toArray ∧ Post X (fps [.blk b 29 (Col.cells x)]) w0 [.vec A_0 c_0 2 1 n_0 (ints r.1), .blk b 29 (Col.cells x)] [] w) := by
  unfold impl_Colouring_firstOf.f at H
  refine enterM (n := 18) hp Try.func39 rfl rfl (Nat.le_of_ble_eq_true rfl) fun a w ht hm => ?_
  refine wp_seq ?_
  refine wpr ?_
  refine wpl_box rfl rfl ht hm rfl rfl rfl ?_
  intro b1 a ht w hm
  refine wpl rfl rfl ht (ev_assign ht rfl rfl) ?_
  intro a ht
  refine wpl rfl rfl ht (ev_assign ht rfl rfl) ?_
  intro a ht
  refine wpList_nil ?_
  refine then_normal ?_
  refine wp_seq ?_
  refine wpr ?_
  refine wpl_build_ints (l := ([] : List Int)) rfl rfl ht hm rfl und_24 zo_2 sz1_2 (by decide) rfl rfl rfl ?_
  intro A2 a ht w hm
  refine wpl_alloc rfl rfl ht hm rfl zo_24 ?_
  intro b3 a ht w hm
  refine wpl_store_blk 0 rfl rfl ht hm rfl rfl rfl sz1_24 rfl rfl rfl ?_
  intro a ht w hm
  refine wpList_nil ?_
  refine then_normal ?_
  refine wp_seq ?_
  refine wpr ?_
  refine wpl rfl rfl ht (ev_move ht rfl rfl) ?_
  intro a ht
  refine wpl rfl rfl ht (ev_move ht rfl rfl) ?_
  intro a ht
  refine wpl rfl rfl ht (ev_makeFunc ht rfl rfl rfl) ?_
  intro a ht
  replace hm : Ms _ _ _ _ (OwnAt w0.heap.size 2 none 0 0 ([] : List Int) :: _) w := hm.addφ (ownAt_nil _ _)
  replace hm : Ms _ _ _ _ (OwnAt w0.heap.size 2 A2 0 0 ([] : List Int) :: _) w := hm.shutOwn 1 (hm.ownGe 1 (Nat.le_refl _) (srcIn 2 rfl rfl srcNil) rfl) rfl
  obtain ⟨t5, et5, H⟩ := bind_get H
  have hcall := impl_Colouring_cliques__Colouring_firstOf_1.calls k _ _ w0.heap.size b none 0 0 b1 b3 A2 0 0 x c ([] : List Int) m ([] : List Int) _ ((hm.pick (own' := [.blk b 29 (Col.cells x), .blk b1 2 [.int .i64 m], .blk b3 24 [.slice A2 0 0]] ++ []) [2, 1, 0] rfl (by decide)).give (passed := [.blk b 29 (Col.cells x), .blk b1 2 [.int .i64 m], .blk b3 24 [.slice A2 0 0]]) (rest := []) (φp := [OwnAt w0.heap.size 2 none 0 0 ([] : List Int), OwnAt w0.heap.size 2 A2 0 0 ([] : List Int)]) [1, 0] rfl) hm.mod.size et5
  refine wpl_call _ rfl rfl ht rfl rfl rfl rfl can_52 hcall ?_
  clear hcall
  rintro _ w ⟨A6, c7, m8, rfl, hpost⟩ a ht
  replace hm := (hm.pick (own' := [.blk b 29 (Col.cells x), .blk b1 2 [.int .i64 m], .blk b3 24 [.slice A2 0 0]] ++ []) [2, 1, 0] rfl (by decide)).back hpost
  clear hpost
  refine wpl rfl rfl ht (ev_assign ht rfl rfl) ?_
  intro a ht
  refine wpList_nil ?_
  refine then_normal ?_
  refine wp_seq ?_
  refine wpr ?_
  refine wpl rfl rfl ht (ev_load ht rfl rfl sc_24 (hm.blk_cell 2 rfl rfl)) ?_
  intro a ht
  refine wpl rfl rfl ht (ev_move ht rfl rfl) ?_
  intro a ht
  refine wpl rfl rfl ht (ev_not ht rfl rfl) ?_
  intro a ht
  refine wpl rfl rfl ht (ev_assign ht rfl rfl) ?_
  intro a ht
  refine wpl rfl rfl ht (ev_assign ht rfl rfl) ?_
  intro a ht
  refine wpList_nil ?_
  refine then_normal ?_
  refine wp_ret ?_
  have hres := ht.res (P := Try.prog) (w := w) (rs := [.tmp 6, .tmp 7]) (vs := [.slice A6 m8 c7, .bool !t5.1]) (.tmp rfl (.tmp rfl .nil))
  replace hm := hm.reclaim 0 (Nat.le_refl _) rfl
  obtain rfl := Option.some.inj H
  exact leave ht rfl hres ⟨A6, c7, m8, rfl, ((hm.pick [0, 1] rfl (by decide)).pickφ [] rfl).post fun _ h => h⟩

/-! ### impl_Colouring_avoids: function 27 ((*loop.example/g01362/impl.Colouring).avoids) -/
def impl_Colouring_avoids.l0 : Nat → Col → List Int → Int → Option (Bool)
  | 0, _, _, _ => none
  | q1 + 1, x, sizes, xs0_1 => if xs0_1 < (sizes.length : Int) then ((getI sizes xs0_1).bind fun t3 => (impl_Colouring_firstOf.f q1 x xs0_1 t3).bind fun t4 => if t4.2 = true then (some false) else (impl_Colouring_avoids.l0 q1 x sizes (w64 (xs0_1 + 1)))) else (some true)
def impl_Colouring_avoids.f (k : Nat) (x : Col) (sizes : List Int) : Option (Bool) := impl_Colouring_avoids.l0 k x sizes 0
set_option maxRecDepth 100000 in
set_option maxHeartbeats 20000000 in
theorem impl_Colouring_avoids.calls (k : Nat) (X : List Nat) (w0 : World) (b : Nat) (A : Option Addr) (c : Nat) (m : Nat) (x : Col) (sizes : List Int) (r : Bool)
    (hp : Pre X w0 [.blk b 29 (Col.cells x)] [IntsAt A c m sizes]) (H : impl_Colouring_avoids.f k x sizes = some r) :
    Calls Try.prog 27 [.pointer (some ⟨b, 0, none⟩), .slice A m c].toArray w0 (Ret fun v w => v = .bool r ∧ Post X (fps [.blk b 29 (Col.cells x)]) w0 [.blk b 29 (Col.cells x)] [] w) := by
  unfold impl_Colouring_avoids.f at H
  refine enterM (n := 25) hp Try.func27 rfl rfl (Nat.le_of_ble_eq_true rfl) fun a w ht hm => ?_
  refine wp_seq ?_
  refine wpr ?_
  refine wpl rfl rfl ht (ev_assign ht rfl rfl) ?_
  intro a ht
  refine wpList_nil ?_
  refine then_normal ?_
  refine wp_seq ?_
  refine wp_seq ?_
  refine wpr ?_
  refine wpl rfl rfl ht (ev_move ht rfl rfl) ?_
  intro a ht
  refine wpl rfl rfl ht (ev_len_of ht rfl rfl und_24 (hm.fact (φ := IntsAt A c m sizes) 0 rfl)) ?_
  intro a ht
  refine wpl rfl rfl ht (ev_move ht rfl rfl) ?_
  intro a ht
  refine wpList_nil ?_
  refine then_normal ?_
  refine wp_block ?_
  refine wpLoop (fun q a w => ∃ (xs0_1 : Int), impl_Colouring_avoids.l0 q x sizes xs0_1 = some r ∧ q ≤ k ∧ Tm 25 [(0, .pointer (some ⟨b, 0, none⟩)), (4, .bool false), (9, .slice A m c), (10, .int .i64 (sizes.length : Int)), (11, .int .i64 xs0_1)] a ∧ Ms X (fps [.blk b 29 (Col.cells x)]) w0 [.blk b 29 (Col.cells x)] [IntsAt A c m sizes] w) (k0 := k) ⟨0, H, Nat.le_refl _, ht.sub ⟨rfl, rfl, rfl, rfl, rfl, trivial⟩, (hm.pick [0] rfl (by decide)).pickφ [0] rfl⟩ ?_
  clear H ht hm
  intro q1 a w hJ
  obtain ⟨xs0_1, H, hqq1, ht, hm⟩ := hJ
  cases q1 with
  | zero => cases H
  | succ q1 =>
  rw [impl_Colouring_avoids.l0] at H
  refine wp_seq ?_
  refine wpr ?_
  refine wpl rfl rfl ht (ev_cmp ht rfl rfl rfl rfl) ?_
  intro a ht
  refine wpList_nil ?_
  refine then_normal ?_
  refine wp_seq ?_
  by_cases h2 : xs0_1 < (sizes.length : Int)
  · replace H := ite_yes h2 H
    refine wpc_yes ht rfl (decide_eq_true h2) ?_
    refine wp_skip ?_
    refine then_normal ?_
    refine wp_seq ?_
    refine wp_block ?_
    refine wp_seq ?_
    refine wpr ?_
    refine wpl rfl rfl ht (ev_move ht rfl rfl) ?_
    intro a ht
    obtain ⟨t3, et3, H⟩ := bind_get H
    refine wpl rfl rfl ht (ev_index_ints ht rfl rfl rfl so_24 (hm.fact (φ := IntsAt A c m sizes) 0 rfl) et3) ?_
    intro a ht
    refine wpl rfl rfl ht (ev_load ht rfl rfl sc_2 (RowAt.cell (hm.fact (φ := IntsAt A c m sizes) 0 rfl) (ints_get et3) rfl)) ?_
    intro a ht
    refine wpl rfl rfl ht (ev_assign ht rfl rfl) ?_
    intro a ht
    refine wpl rfl rfl ht (ev_assign ht rfl rfl) ?_
    intro a ht
    refine wpList_nil ?_
    refine then_normal ?_
    refine wp_seq ?_
    refine wpr ?_
    refine wpl rfl rfl ht (ev_move ht rfl rfl) ?_
    intro a ht
    refine wpl rfl rfl ht (ev_move ht rfl rfl) ?_
    intro a ht
    refine wpl rfl rfl ht (ev_move ht rfl rfl) ?_
    intro a ht
    obtain ⟨t4, et4, H⟩ := bind_get H
    have hcall := impl_Colouring_firstOf.calls q1 _ _ b x xs0_1 t3 _ ((fun (hq : Ms _ _ _ ([.blk b 29 (Col.cells x)] ++ []) _ _) => hq.lend (φp := []) (allRO_nil)) (hm.pick (own' := [.blk b 29 (Col.cells x)] ++ []) [0] rfl (by decide))) et4
    refine wpl_call _ rfl rfl ht rfl rfl rfl rfl can_39 hcall ?_
    clear hcall
    rintro _ w ⟨A5, c6, m7, rfl, hpost⟩ a ht
    replace hm := (hm.pick (own' := [.blk b 29 (Col.cells x)] ++ []) [0] rfl (by decide)).backL hpost
    clear hpost
    refine wpl rfl rfl ht (ev_move ht rfl rfl) ?_
    intro a ht
    refine wpl rfl rfl ht (ev_extract ht rfl rfl rfl) ?_
    intro a ht
    refine wpl rfl rfl ht (ev_extract ht rfl rfl rfl) ?_
    intro a ht
    refine wpl rfl rfl ht (ev_assign ht rfl rfl) ?_
    intro a ht
    refine wpl rfl rfl ht (ev_assign ht rfl rfl) ?_
    intro a ht
    refine wpList_nil ?_
    refine then_normal ?_
    refine wp_seq ?_
    refine wpr ?_
    refine wpl rfl rfl ht (ev_move ht rfl rfl) ?_
    intro a ht
    refine wpList_nil ?_
    refine then_normal ?_
    by_cases h8 : t4.2 = true
    · replace H := ite_yes h8 H
      refine wpc_yes ht rfl h8 ?_
      refine wp_seq ?_
      refine wpr ?_
      refine wpl rfl rfl ht (ev_assign ht rfl rfl) ?_
      intro a ht
      refine wpList_nil ?_
      refine then_normal ?_
      refine wp_ret ?_
      refine blk_ret ?_
      refine then_ret ?_
      refine then_ret ?_
      refine blk_ret ?_
      refine then_ret ?_
      have hres := ht.res (P := Try.prog) (w := w) (rs := [.tmp 4]) (vs := [.bool false]) (.tmp rfl .nil)
      obtain rfl := Option.some.inj H
      exact leave ht rfl hres ⟨rfl, ((hm.pick [1] rfl (by decide)).pickφ [] rfl).post fun _ h => h⟩
    · replace H := ite_no h8 H
      refine wpc_no ht rfl (Bool.eq_false_iff.mpr h8) ?_
      refine wp_skip ?_
      refine blk_normal ?_
      refine then_normal ?_
      refine wpr ?_
      refine wpl rfl rfl ht (ev_arith ht rfl rfl rfl rfl) ?_
      intro a ht
      refine wpl rfl rfl ht (ev_move ht rfl rfl) ?_
      intro a ht
      refine wpList_nil ?_
      exact then_normal ⟨q1, by omega, (w64 (xs0_1 + 1)), H, by omega, ht.sub ⟨rfl, rfl, rfl, rfl, rfl, trivial⟩, (hm.pick [1] rfl (by decide)).pickφ [0] rfl⟩
  · replace H := ite_no h2 H
    refine wpc_no ht rfl (decide_eq_false h2) ?_
    refine wp_exit ?_
    refine then_exit ?_
    refine then_exit ?_
    refine blk_hit ?_
    refine then_normal ?_
    refine wp_seq ?_
    refine wpr ?_
    refine wpl rfl rfl ht (ev_assign ht rfl rfl) ?_
    intro a ht
    refine wpList_nil ?_
    refine then_normal ?_
    refine wp_ret ?_
    have hres := ht.res (P := Try.prog) (w := w) (rs := [.tmp 4]) (vs := [.bool true]) (.tmp rfl .nil)
    obtain rfl := Option.some.inj H
    exact leave ht rfl hres ⟨rfl, ((hm.pick [0] rfl (by decide)).pickφ [] rfl).post fun _ h => h⟩

end Go.Proofs.Ytkceneefhbdifaa.G
