/- What each Go function computes, as a Lean function, and the proof that it does: written by a program of this session (wip/gen), part 4. -/
import Derived.Test.YtjhcacfhahpdgaaGFnExactLongestPath3
namespace Go.Proofs.Ytjhcacfhahpdgaa.G
open Go Go.RowKit Go.Proofs.Ytjhcacfhahpdgaa.K
set_option linter.unusedVariables false
set_option linter.unusedSimpArgs false

/-! ### spec_l04Path: function 31 (loop.example/g01362/spec.l04Path) -/
mutual
def spec_l04Path.l0 : Nat → Col → List Int → List Int → Int → Int → Option (List Int)
  | 0, _, _, _, _, _ => none
  | q10 + 1, x, t2, t6, xs0_1, xs0_2 => if xs0_2 < (t6.length : Int) then ((getI t6 xs0_2).bind fun t12 => if t12 ≠ 0 then ((spec_l01Ones.f q10 xs0_2).bind fun t14 => spec_l04Path.l0 q10 x t2 t6 (max xs0_1 t14) (w64 (xs0_2 + 1))) else (spec_l04Path.l0 q10 x t2 t6 xs0_1 (w64 (xs0_2 + 1)))) else (spec_l04Path.l1 q10 x t2 t6 xs0_1 ([] : List Int) 0)
def spec_l04Path.l1 : Nat → Col → List Int → List Int → Int → List Int → Int → Option (List Int)
  | 0, _, _, _, _, _, _ => none
  | q16 + 1, x, t2, t6, xs0_1, ls1_4, xs1_5 => if xs1_5 < (t6.length : Int) then ((getI t6 xs1_5).bind fun t18 => if t18 ≠ 0 then ((spec_l01Ones.f q16 xs1_5).bind fun t20 => if t20 = xs0_1 then ((push ls1_4 xs1_5).bind fun l26 => spec_l04Path.l1 q16 x t2 t6 xs0_1 l26 (w64 (xs1_5 + 1))) else (spec_l04Path.l1 q16 x t2 t6 xs0_1 ls1_4 (w64 (xs1_5 + 1)))) else (spec_l04Path.l1 q16 x t2 t6 xs0_1 ls1_4 (w64 (xs1_5 + 1)))) else (spec_l04Path.l2 q16 x t2 t6 xs0_1 ([] : List Int) ls1_4 (w64 ((t6.length : Int) - 1)))
def spec_l04Path.l2 : Nat → Col → List Int → List Int → Int → List Int → List Int → Int → Option (List Int)
  | 0, _, _, _, _, _, _, _ => none
  | q28 + 1, x, t2, t6, xs0_1, ls2_4, ls2_8, xs2_9 => if (ls2_4.length : Int) < xs0_1 then (spec_l04Path.l3 q28 x t2 t6 xs0_1 ls2_4 ls2_8 xs2_9 (-1) 0) else (some ls2_4)
def spec_l04Path.l3 : Nat → Col → List Int → List Int → Int → List Int → List Int → Int → Int → Int → Option (List Int)
  | 0, _, _, _, _, _, _, _, _, _ => none
  | q30 + 1, x, t2, t6, xs0_1, ls2_4, ls2_8, xs2_9, xs3_1, xs3_2 => if xs3_2 < x.p then (if xs3_1 < 0 then (spec_l04Path.l4 q30 x t2 t6 xs0_1 ls2_4 ls2_8 xs2_9 xs3_2 xs3_1 0) else (spec_l04Path.l5 q30 x t2 t6 xs0_1 ls2_4 ls2_8 xs3_1 ([] : List Int) 0)) else (spec_l04Path.l6 q30 x t2 t6 xs0_1 ls2_4 ls2_8 xs3_1 ([] : List Int) 0)
def spec_l04Path.l4 : Nat → Col → List Int → List Int → Int → List Int → List Int → Int → Int → Int → Int → Option (List Int)
  | 0, _, _, _, _, _, _, _, _, _, _ => none
  | q33 + 1, x, t2, t6, xs0_1, ls2_4, ls2_8, xs2_9, xs3_2, xs4_1, xs4_2 => if xs4_2 < (ls2_8.length : Int) then (if xs4_1 < 0 then (if (bitop .and .i64 (shrI .i64 xs2_9 (wu64 xs3_2)) 1) = 1 then ((getI ls2_8 xs4_2).bind fun t37 => (getI t6 t37).bind fun t38 => if (bitop .and .i64 (shrI .i64 t38 (wu64 xs3_2)) 1) = 1 then (spec_l04Path.l4 q33 x t2 t6 xs0_1 ls2_4 ls2_8 xs2_9 xs3_2 xs3_2 (w64 (xs4_2 + 1))) else (spec_l04Path.l4 q33 x t2 t6 xs0_1 ls2_4 ls2_8 xs2_9 xs3_2 xs4_1 (w64 (xs4_2 + 1)))) else (spec_l04Path.l3 q33 x t2 t6 xs0_1 ls2_4 ls2_8 xs2_9 xs4_1 (w64 (xs3_2 + 1)))) else (spec_l04Path.l3 q33 x t2 t6 xs0_1 ls2_4 ls2_8 xs2_9 xs4_1 (w64 (xs3_2 + 1)))) else (spec_l04Path.l3 q33 x t2 t6 xs0_1 ls2_4 ls2_8 xs2_9 xs4_1 (w64 (xs3_2 + 1)))
def spec_l04Path.l5 : Nat → Col → List Int → List Int → Int → List Int → List Int → Int → List Int → Int → Option (List Int)
  | 0, _, _, _, _, _, _, _, _, _ => none
  | q41 + 1, x, t2, t6, xs0_1, ls2_4, ls2_8, xs3_1, ls5_4, xs5_5 => if xs5_5 < (ls2_8.length : Int) then ((getI ls2_8 xs5_5).bind fun t43 => (getI t6 t43).bind fun t44 => if (bitop .and .i64 (shrI .i64 t44 (wu64 xs3_1)) 1) = 1 then ((getI ls2_8 xs5_5).bind fun t46 => (push ls5_4 (bitop .xor .i64 t46 (shlI .i64 1 (wu64 xs3_1)))).bind fun l51 => spec_l04Path.l5 q41 x t2 t6 xs0_1 ls2_4 ls2_8 xs3_1 l51 (w64 (xs5_5 + 1))) else (spec_l04Path.l5 q41 x t2 t6 xs0_1 ls2_4 ls2_8 xs3_1 ls5_4 (w64 (xs5_5 + 1)))) else ((push ls2_4 xs3_1).bind fun l56 => (getI t2 xs3_1).bind fun t57 => spec_l04Path.l2 q41 x t2 t6 xs0_1 l56 ls5_4 t57)
def spec_l04Path.l6 : Nat → Col → List Int → List Int → Int → List Int → List Int → Int → List Int → Int → Option (List Int)
  | 0, _, _, _, _, _, _, _, _, _ => none
  | q59 + 1, x, t2, t6, xs0_1, ls2_4, ls2_8, xs3_1, ls6_4, xs6_5 => if xs6_5 < (ls2_8.length : Int) then ((getI ls2_8 xs6_5).bind fun t61 => (getI t6 t61).bind fun t62 => if (bitop .and .i64 (shrI .i64 t62 (wu64 xs3_1)) 1) = 1 then ((getI ls2_8 xs6_5).bind fun t64 => (push ls6_4 (bitop .xor .i64 t64 (shlI .i64 1 (wu64 xs3_1)))).bind fun l69 => spec_l04Path.l6 q59 x t2 t6 xs0_1 ls2_4 ls2_8 xs3_1 l69 (w64 (xs6_5 + 1))) else (spec_l04Path.l6 q59 x t2 t6 xs0_1 ls2_4 ls2_8 xs3_1 ls6_4 (w64 (xs6_5 + 1)))) else ((push ls2_4 xs3_1).bind fun l74 => (getI t2 xs3_1).bind fun t75 => spec_l04Path.l2 q59 x t2 t6 xs0_1 l74 ls6_4 t75)
end
def spec_l04Path.f (k : Nat) (x : Col) (c : Int) : Option (List Int) := (spec_l02Rows.f k x c).bind fun t2 => (spec_l04Ends.f k t2).bind fun t6 => spec_l04Path.l0 k x t2 t6 0 0
set_option maxRecDepth 100000 in
set_option maxHeartbeats 1000000 in
theorem spec_l04Path.calls (k : Nat) (X : List Nat) (w0 : World)  (x : Col) (c : Int) (r : List Int)
    (hp : Pre X w0 [] []) (H : spec_l04Path.f k x c = some r) :
    Calls Try.prog 31 [.agg (Col.cells x).toArray, .int .i64 c].toArray w0 (Ret fun v w => ∃ (A_0 : Option Addr) (c_0 : Nat) (n_0 : Nat), v = .slice A_0 n_0 c_0 ∧ Post X (fps []) w0 [.vec A_0 c_0 2 1 n_0 (ints r)] [] w) := by
  unfold spec_l04Path.f at H
  refine enterM (n := 149) hp Try.func31 rfl rfl (Nat.le_of_ble_eq_true rfl) fun a w ht hm => ?_
  refine wp_seq ?_
  refine wpr ?_
  refine wpl_box rfl rfl ht hm rfl rfl rfl ?_
  intro b1 a ht w hm
  refine wpl rfl rfl ht (ev_assign ht rfl rfl) ?_
  intro a ht
  refine wpList_nil ?_
  refine then_normal ?_
  refine wp_seq ?_
  refine wpr ?_
  refine wpl rfl rfl ht (ev_load_agg ht rfl rfl (ag_28.trans (by first | rw [Col.length_cells] | rfl)) (hm.blk_all 0 rfl)) ?_
  intro a ht
  refine wpl rfl rfl ht (ev_move ht rfl rfl) ?_
  intro a ht
  obtain ⟨t2, et2, H⟩ := bind_get H
  have hcall := spec_l02Rows.calls k _ _ x c _ ((fun (hq : Ms _ _ _ ([] ++ [.blk b1 28 (Col.cells x)]) _ _) => hq.lend (φp := []) (allRO_nil)) (hm.pick (own' := [] ++ [.blk b1 28 (Col.cells x)]) [0] rfl (by decide))) et2
  refine wpl_call _ rfl rfl ht rfl rfl rfl rfl can_36 hcall ?_
  clear hcall
  rintro _ w ⟨A3, c4, m5, rfl, hpost⟩ a ht
  replace hm := (hm.pick (own' := [] ++ [.blk b1 28 (Col.cells x)]) [0] rfl (by decide)).backL hpost
  clear hpost
  refine wpl rfl rfl ht (ev_assign ht rfl rfl) ?_
  intro a ht
  refine wpList_nil ?_
  refine then_normal ?_
  refine wp_seq ?_
  refine wpr ?_
  refine wpl rfl rfl ht (ev_move ht rfl rfl) ?_
  intro a ht
  obtain ⟨t6, et6, H⟩ := bind_get H
  have hcall := spec_l04Ends.calls k _ _ A3 c4 m5 t2 _ ((fun (hq : Ms _ _ _ ([] ++ [.vec A3 c4 2 1 m5 (ints t2), .blk b1 28 (Col.cells x)]) _ _) => hq.lend (φp := [IntsAt A3 c4 m5 t2]) (allRO_cons (hq.lendVec 0 rfl) (allRO_nil))) (hm.pick (own' := [] ++ [.vec A3 c4 2 1 m5 (ints t2), .blk b1 28 (Col.cells x)]) [0, 1] rfl (by decide))) et6
  refine wpl_call _ rfl rfl ht rfl rfl rfl rfl can_47 hcall ?_
  clear hcall
  rintro _ w ⟨A7, c8, m9, rfl, hpost⟩ a ht
  replace hm := (hm.pick (own' := [] ++ [.vec A3 c4 2 1 m5 (ints t2), .blk b1 28 (Col.cells x)]) [0, 1] rfl (by decide)).backL hpost
  clear hpost
  refine wpl rfl rfl ht (ev_assign ht rfl rfl) ?_
  intro a ht
  refine wpl rfl rfl ht (ev_assign ht rfl rfl) ?_
  intro a ht
  refine wpList_nil ?_
  refine then_normal ?_
  refine wp_seq ?_
  refine wp_seq ?_
  refine wpr ?_
  refine wpl rfl rfl ht (ev_assign ht rfl rfl) ?_
  intro a ht
  refine wpList_nil ?_
  refine then_normal ?_
  refine wp_block ?_
  refine wpLoop (fun q a w => ∃ (xs0_1 : Int) (xs0_2 : Int), spec_l04Path.l0 q x t2 t6 xs0_1 xs0_2 = some r ∧ q ≤ k ∧ Tm 149 [(2, .pointer (some ⟨b1, 0, none⟩)), (4, .slice none 0 0), (5, .slice A3 m5 c4), (6, .slice A7 m9 c8), (7, .int .i64 xs0_1), (8, .int .i64 xs0_2)] a ∧ Ms X (fps []) w0 [.vec A7 c8 2 1 m9 (ints t6), .vec A3 c4 2 1 m5 (ints t2), .blk b1 28 (Col.cells x)] [] w) (k0 := k) ⟨0, 0, H, Nat.le_refl _, ht.sub ⟨rfl, rfl, rfl, rfl, rfl, rfl, trivial⟩, (hm.pick [0, 1, 2] rfl (by decide)).pickφ [] rfl⟩ ?_
  clear H ht hm
  intro q10 a w hJ
  obtain ⟨xs0_1, xs0_2, H, hqq10, ht, hm⟩ := hJ
  cases q10 with
  | zero => cases H
  | succ q10 =>
  rw [spec_l04Path.l0] at H
  refine wp_seq ?_
  refine wp_seq ?_
  refine wpr ?_
  refine wpl rfl rfl ht (ev_move ht rfl rfl) ?_
  intro a ht
  refine wpl rfl rfl ht (ev_move ht rfl rfl) ?_
  intro a ht
  refine wpl rfl rfl ht (ev_len_of ht rfl rfl und_25 (hm.vec_row 0 rfl)) ?_
  intro a ht
  refine wpl rfl rfl ht (ev_cmp ht rfl rfl rfl rfl) ?_
  intro a ht
  refine wpList_nil ?_
  refine then_normal ?_
  by_cases h11 : xs0_2 < (t6.length : Int)
  · replace H := ite_yes h11 H
    refine wpc_yes ht rfl (decide_eq_true h11) ?_
    refine wp_skip ?_
    refine then_normal ?_
    refine wp_seq ?_
    refine wp_block ?_
    refine wp_seq ?_
    refine wpr ?_
    refine wpl rfl rfl ht (ev_move ht rfl rfl) ?_
    intro a ht
    refine wpl rfl rfl ht (ev_move ht rfl rfl) ?_
    intro a ht
    obtain ⟨t12, et12, H⟩ := bind_get H
    refine wpl rfl rfl ht (ev_index_ints ht rfl rfl rfl so_25 (hm.vec_row 0 rfl) et12) ?_
    intro a ht
    refine wpl rfl rfl ht (ev_load ht rfl rfl sc_2 (RowAt.cell (hm.vec_row 0 rfl) (ints_get et12) rfl)) ?_
    intro a ht
    refine wpl rfl rfl ht (ev_cmp ht rfl rfl rfl rfl) ?_
    intro a ht
    refine wpList_nil ?_
    refine then_normal ?_
    by_cases h13 : t12 ≠ 0
    · replace H := ite_yes h13 H
      refine wpc_yes ht rfl (decide_eq_true h13) ?_
      refine wpr ?_
      refine wpl rfl rfl ht (ev_move ht rfl rfl) ?_
      intro a ht
      refine wpl rfl rfl ht (ev_move ht rfl rfl) ?_
      intro a ht
      obtain ⟨t14, et14, H⟩ := bind_get H
      have hcall := spec_l01Ones.calls q10 _ _ xs0_2 _ ((fun (hq : Ms _ _ _ ([] ++ [.vec A7 c8 2 1 m9 (ints t6), .vec A3 c4 2 1 m5 (ints t2), .blk b1 28 (Col.cells x)]) _ _) => hq.lend (φp := []) (allRO_nil)) (hm.pick (own' := [] ++ [.vec A7 c8 2 1 m9 (ints t6), .vec A3 c4 2 1 m5 (ints t2), .blk b1 28 (Col.cells x)]) [0, 1, 2] rfl (by decide))) et14
      refine wpl_call _ rfl rfl ht rfl rfl rfl rfl can_37 hcall ?_
      clear hcall
      rintro _ w ⟨rfl, hpost⟩ a ht
      replace hm := (hm.pick (own' := [] ++ [.vec A7 c8 2 1 m9 (ints t6), .vec A3 c4 2 1 m5 (ints t2), .blk b1 28 (Col.cells x)]) [0, 1, 2] rfl (by decide)).backL hpost
      clear hpost
      refine wpl rfl rfl ht (ev_max ht rfl rfl rfl) ?_
      intro a ht
      refine wpl rfl rfl ht (ev_assign ht rfl rfl) ?_
      intro a ht
      refine wpList_nil ?_
      refine blk_normal ?_
      refine then_normal ?_
      refine wpr ?_
      refine wpl rfl rfl ht (ev_move ht rfl rfl) ?_
      intro a ht
      refine wpl rfl rfl ht (ev_arith ht rfl rfl rfl rfl) ?_
      intro a ht
      refine wpl rfl rfl ht (ev_assign ht rfl rfl) ?_
      intro a ht
      refine wpList_nil ?_
      exact then_normal ⟨q10, by omega, (max xs0_1 t14), (w64 (xs0_2 + 1)), H, by omega, ht.sub ⟨rfl, rfl, rfl, rfl, rfl, rfl, trivial⟩, (hm.pick [0, 1, 2] rfl (by decide)).pickφ [] rfl⟩
    · replace H := ite_no h13 H
      refine wpc_no ht rfl (decide_eq_false h13) ?_
      refine wp_skip ?_
      refine blk_normal ?_
      refine then_normal ?_
      refine wpr ?_
      refine wpl rfl rfl ht (ev_move ht rfl rfl) ?_
      intro a ht
      refine wpl rfl rfl ht (ev_arith ht rfl rfl rfl rfl) ?_
      intro a ht
      refine wpl rfl rfl ht (ev_assign ht rfl rfl) ?_
      intro a ht
      refine wpList_nil ?_
      exact then_normal ⟨q10, by omega, xs0_1, (w64 (xs0_2 + 1)), H, by omega, ht.sub ⟨rfl, rfl, rfl, rfl, rfl, rfl, trivial⟩, (hm.pick [0, 1, 2] rfl (by decide)).pickφ [] rfl⟩
  · replace H := ite_no h11 H
    refine wpc_no ht rfl (decide_eq_false h11) ?_
    refine wp_exit ?_
    refine then_exit ?_
    refine then_exit ?_
    refine blk_hit ?_
    refine then_normal ?_
    refine wp_seq ?_
    refine wpr ?_
    refine wpl_build_ints (l := ([] : List Int)) rfl rfl ht hm rfl und_25 zo_2 sz1_2 (by decide) rfl rfl rfl ?_
    intro A15 a ht w hm
    refine wpl rfl rfl ht (ev_assign ht rfl rfl) ?_
    intro a ht
    refine wpList_nil ?_
    refine then_normal ?_
    refine wp_seq ?_
    refine wp_seq ?_
    refine wpr ?_
    refine wpl rfl rfl ht (ev_assign ht rfl rfl) ?_
    intro a ht
    refine wpList_nil ?_
    refine then_normal ?_
    refine wp_block ?_
    refine wpLoop (fun q a w => ∃ (ls1_4 : List Int) (xs1_5 : Int) (As1_1 : Option Addr) (cs1_2 : Nat) (ms1_3 : Nat), spec_l04Path.l1 q x t2 t6 xs0_1 ls1_4 xs1_5 = some r ∧ q ≤ q10 ∧ Tm 149 [(2, .pointer (some ⟨b1, 0, none⟩)), (4, .slice none 0 0), (5, .slice A3 m5 c4), (6, .slice A7 m9 c8), (7, .int .i64 xs0_1), (9, .slice As1_1 ms1_3 cs1_2), (10, .int .i64 xs1_5)] a ∧ Ms X (fps []) w0 [.vec As1_1 cs1_2 2 1 ms1_3 (ints ls1_4), .vec A7 c8 2 1 m9 (ints t6), .vec A3 c4 2 1 m5 (ints t2), .blk b1 28 (Col.cells x)] [] w) (k0 := q10) ⟨([] : List Int), 0, A15, 0, 0, H, Nat.le_refl _, ht.sub ⟨rfl, rfl, rfl, rfl, rfl, rfl, rfl, trivial⟩, (hm.pick [0, 1, 2, 3] rfl (by decide)).pickφ [] rfl⟩ ?_
    clear H ht hm
    intro q16 a w hJ
    obtain ⟨ls1_4, xs1_5, As1_1, cs1_2, ms1_3, H, hqq16, ht, hm⟩ := hJ
    cases q16 with
    | zero => cases H
    | succ q16 =>
    rw [spec_l04Path.l1] at H
    refine wp_seq ?_
    refine wp_seq ?_
    refine wpr ?_
    refine wpl rfl rfl ht (ev_move ht rfl rfl) ?_
    intro a ht
    refine wpl rfl rfl ht (ev_move ht rfl rfl) ?_
    intro a ht
    refine wpl rfl rfl ht (ev_len_of ht rfl rfl und_25 (hm.vec_row 1 rfl)) ?_
    intro a ht
    refine wpl rfl rfl ht (ev_cmp ht rfl rfl rfl rfl) ?_
    intro a ht
    refine wpList_nil ?_
    refine then_normal ?_
    by_cases h17 : xs1_5 < (t6.length : Int)
    · replace H := ite_yes h17 H
      refine wpc_yes ht rfl (decide_eq_true h17) ?_
      refine wp_skip ?_
      refine then_normal ?_
      refine wp_seq ?_
      refine wp_block ?_
      refine wp_seq ?_
      refine wpr ?_
      refine wpl rfl rfl ht (ev_move ht rfl rfl) ?_
      intro a ht
      refine wpl rfl rfl ht (ev_move ht rfl rfl) ?_
      intro a ht
      obtain ⟨t18, et18, H⟩ := bind_get H
      refine wpl rfl rfl ht (ev_index_ints ht rfl rfl rfl so_25 (hm.vec_row 1 rfl) et18) ?_
      intro a ht
      refine wpl rfl rfl ht (ev_load ht rfl rfl sc_2 (RowAt.cell (hm.vec_row 1 rfl) (ints_get et18) rfl)) ?_
      intro a ht
      refine wpl rfl rfl ht (ev_cmp ht rfl rfl rfl rfl) ?_
      intro a ht
      refine wpl rfl rfl ht (ev_move ht rfl rfl) ?_
      intro a ht
      by_cases h19 : t18 ≠ 0
      · replace H := ite_yes h19 H
        refine wpl_yes rfl ht rfl ((decide_eq_true h19)) ?_
        refine wpl rfl rfl ht (ev_move ht rfl rfl) ?_
        intro a ht
        refine wpl_yes rfl ht rfl ((decide_eq_true h19)) ?_
        obtain ⟨t20, et20, H⟩ := bind_get H
        have hcall := spec_l01Ones.calls q16 _ _ xs1_5 _ ((fun (hq : Ms _ _ _ ([] ++ [.vec As1_1 cs1_2 2 1 ms1_3 (ints ls1_4), .vec A7 c8 2 1 m9 (ints t6), .vec A3 c4 2 1 m5 (ints t2), .blk b1 28 (Col.cells x)]) _ _) => hq.lend (φp := []) (allRO_nil)) (hm.pick (own' := [] ++ [.vec As1_1 cs1_2 2 1 ms1_3 (ints ls1_4), .vec A7 c8 2 1 m9 (ints t6), .vec A3 c4 2 1 m5 (ints t2), .blk b1 28 (Col.cells x)]) [0, 1, 2, 3] rfl (by decide))) et20
        refine wpl_call _ rfl rfl ht rfl rfl rfl rfl can_37 hcall ?_
        clear hcall
        rintro _ w ⟨rfl, hpost⟩ a ht
        replace hm := (hm.pick (own' := [] ++ [.vec As1_1 cs1_2 2 1 ms1_3 (ints ls1_4), .vec A7 c8 2 1 m9 (ints t6), .vec A3 c4 2 1 m5 (ints t2), .blk b1 28 (Col.cells x)]) [0, 1, 2, 3] rfl (by decide)).backL hpost
        clear hpost
        refine wpl_yes rfl ht rfl ((decide_eq_true h19)) ?_
        refine wpl rfl rfl ht (ev_move ht rfl rfl) ?_
        intro a ht
        refine wpl_yes rfl ht rfl ((decide_eq_true h19)) ?_
        refine wpl rfl rfl ht (ev_cmp ht rfl rfl rfl rfl) ?_
        intro a ht
        refine wpl rfl rfl ht (ev_pick_yes ht rfl rfl (decide_eq_true h19) rfl) ?_
        intro a ht
        refine wpList_nil ?_
        refine then_normal ?_
        by_cases h21 : t20 = xs0_1
        · replace H := ite_yes h21 H
          refine wpc_yes ht rfl (decide_eq_true h21) ?_
          refine wpr ?_
          refine wpl rfl rfl ht (ev_move ht rfl rfl) ?_
          intro a ht
          refine wpl rfl rfl ht (ev_move ht rfl rfl) ?_
          intro a ht
          refine wpl_build_ints (l := [xs1_5]) rfl rfl ht hm rfl und_25 zo_2 sz1_2 (by decide) rfl rfl rfl ?_
          intro A22 a ht w hm
          obtain ⟨l26, el26, H⟩ := bind_get H
          refine wpl_push (r := l26) 1 0 rfl rfl ht hm rfl ap_25 rfl rfl rfl rfl el26 ?_
          intro A23 c24 m25 a ht w hm
          refine wpl rfl rfl ht (ev_assign ht rfl rfl) ?_
          intro a ht
          refine wpList_nil ?_
          refine blk_normal ?_
          refine then_normal ?_
          refine wpr ?_
          refine wpl rfl rfl ht (ev_move ht rfl rfl) ?_
          intro a ht
          refine wpl rfl rfl ht (ev_arith ht rfl rfl rfl rfl) ?_
          intro a ht
          refine wpl rfl rfl ht (ev_assign ht rfl rfl) ?_
          intro a ht
          refine wpList_nil ?_
          exact then_normal ⟨q16, by omega, l26, (w64 (xs1_5 + 1)), A23, c24, m25, H, by omega, ht.sub ⟨rfl, rfl, rfl, rfl, rfl, rfl, rfl, trivial⟩, (hm.pick [1, 2, 3, 4] rfl (by decide)).pickφ [] rfl⟩
        · replace H := ite_no h21 H
          refine wpc_no ht rfl (decide_eq_false h21) ?_
          refine wp_skip ?_
          refine blk_normal ?_
          refine then_normal ?_
          refine wpr ?_
          refine wpl rfl rfl ht (ev_move ht rfl rfl) ?_
          intro a ht
          refine wpl rfl rfl ht (ev_arith ht rfl rfl rfl rfl) ?_
          intro a ht
          refine wpl rfl rfl ht (ev_assign ht rfl rfl) ?_
          intro a ht
          refine wpList_nil ?_
          exact then_normal ⟨q16, by omega, ls1_4, (w64 (xs1_5 + 1)), As1_1, cs1_2, ms1_3, H, by omega, ht.sub ⟨rfl, rfl, rfl, rfl, rfl, rfl, rfl, trivial⟩, (hm.pick [0, 1, 2, 3] rfl (by decide)).pickφ [] rfl⟩
      · replace H := ite_no h19 H
        refine wpl_no rfl rfl ht rfl (by rw [(decide_eq_false h19)]; decide) ?_
        intro a ht
        refine wpl_no rfl rfl ht rfl (by rw [(decide_eq_false h19)]; decide) ?_
        intro a ht
        refine wpl_no rfl rfl ht rfl (by rw [(decide_eq_false h19)]; decide) ?_
        intro a ht
        refine wpl_no rfl rfl ht rfl (by rw [(decide_eq_false h19)]; decide) ?_
        intro a ht
        refine wpl rfl rfl ht (ev_pick_no ht rfl rfl (decide_eq_false h19) rfl) ?_
        intro a ht
        refine wpList_nil ?_
        refine then_normal ?_
        refine wpc_no ht rfl rfl ?_
        refine wp_skip ?_
        refine blk_normal ?_
        refine then_normal ?_
        refine wpr ?_
        refine wpl rfl rfl ht (ev_move ht rfl rfl) ?_
        intro a ht
        refine wpl rfl rfl ht (ev_arith ht rfl rfl rfl rfl) ?_
        intro a ht
        refine wpl rfl rfl ht (ev_assign ht rfl rfl) ?_
        intro a ht
        refine wpList_nil ?_
        exact then_normal ⟨q16, by omega, ls1_4, (w64 (xs1_5 + 1)), As1_1, cs1_2, ms1_3, H, by omega, ht.sub ⟨rfl, rfl, rfl, rfl, rfl, rfl, rfl, trivial⟩, (hm.pick [0, 1, 2, 3] rfl (by decide)).pickφ [] rfl⟩
    · replace H := ite_no h17 H
      refine wpc_no ht rfl (decide_eq_false h17) ?_
      refine wp_exit ?_
      refine then_exit ?_
      refine then_exit ?_
      refine blk_hit ?_
      refine then_normal ?_
      refine wp_seq ?_
      refine wpr ?_
      refine wpl_build_ints (l := ([] : List Int)) rfl rfl ht hm rfl und_25 zo_2 sz1_2 (by decide) rfl rfl rfl ?_
      intro A27 a ht w hm
      refine wpl rfl rfl ht (ev_move ht rfl rfl) ?_
      intro a ht
      refine wpl rfl rfl ht (ev_len_of ht rfl rfl und_25 (hm.vec_row 2 rfl)) ?_
      intro a ht
      refine wpl rfl rfl ht (ev_arith ht rfl rfl rfl rfl) ?_
      intro a ht
      refine wpl rfl rfl ht (ev_assign ht rfl rfl) ?_
      intro a ht
      refine wpl rfl rfl ht (ev_assign ht rfl rfl) ?_
      intro a ht
      refine wpList_nil ?_
      refine then_normal ?_
      refine wp_seq ?_
      refine wp_block ?_
      refine wpLoop (fun q a w => ∃ (ls2_4 : List Int) (ls2_8 : List Int) (xs2_9 : Int) (As2_1 : Option Addr) (cs2_2 : Nat) (ms2_3 : Nat) (As2_5 : Option Addr) (cs2_6 : Nat) (ms2_7 : Nat), spec_l04Path.l2 q x t2 t6 xs0_1 ls2_4 ls2_8 xs2_9 = some r ∧ q ≤ q16 ∧ Tm 149 [(2, .pointer (some ⟨b1, 0, none⟩)), (4, .slice none 0 0), (5, .slice A3 m5 c4), (6, .slice A7 m9 c8), (7, .int .i64 xs0_1), (9, .slice As2_5 ms2_7 cs2_6), (11, .slice As2_1 ms2_3 cs2_2), (12, .int .i64 xs2_9)] a ∧ Ms X (fps []) w0 [.vec As2_1 cs2_2 2 1 ms2_3 (ints ls2_4), .vec As2_5 cs2_6 2 1 ms2_7 (ints ls2_8), .vec A7 c8 2 1 m9 (ints t6), .vec A3 c4 2 1 m5 (ints t2), .blk b1 28 (Col.cells x)] [] w) (k0 := q16) ⟨([] : List Int), ls1_4, (w64 ((t6.length : Int) - 1)), A27, 0, 0, As1_1, cs1_2, ms1_3, H, Nat.le_refl _, ht.sub ⟨rfl, rfl, rfl, rfl, rfl, rfl, rfl, rfl, trivial⟩, (hm.pick [0, 1, 2, 3, 4] rfl (by decide)).pickφ [] rfl⟩ ?_
      clear H ht hm
      intro q28 a w hJ
      obtain ⟨ls2_4, ls2_8, xs2_9, As2_1, cs2_2, ms2_3, As2_5, cs2_6, ms2_7, H, hqq28, ht, hm⟩ := hJ
      cases q28 with
      | zero => cases H
      | succ q28 =>
      rw [spec_l04Path.l2] at H
      refine wp_seq ?_
      refine wp_seq ?_
      refine wpr ?_
      refine wpl rfl rfl ht (ev_move ht rfl rfl) ?_
      intro a ht
      refine wpl rfl rfl ht (ev_len_of ht rfl rfl und_25 (hm.vec_row 0 rfl)) ?_
      intro a ht
      refine wpl rfl rfl ht (ev_move ht rfl rfl) ?_
      intro a ht
      refine wpl rfl rfl ht (ev_cmp ht rfl rfl rfl rfl) ?_
      intro a ht
      refine wpList_nil ?_
      refine then_normal ?_
      by_cases h29 : (ls2_4.length : Int) < xs0_1
      · replace H := ite_yes h29 H
        refine wpc_yes ht rfl (decide_eq_true h29) ?_
        refine wp_skip ?_
        refine then_normal ?_
        refine wp_block ?_
        refine wp_seq ?_
        refine wpr ?_
        refine wpl rfl rfl ht (ev_assign ht rfl rfl) ?_
        intro a ht
        refine wpList_nil ?_
        refine then_normal ?_
        refine wp_seq ?_
        refine wp_seq ?_
        refine wpr ?_
        refine wpl rfl rfl ht (ev_assign ht rfl rfl) ?_
        intro a ht
        refine wpList_nil ?_
        refine then_normal ?_
        refine wp_block ?_
        refine wpLoop (fun q a w => ∃ (xs3_1 : Int) (xs3_2 : Int), spec_l04Path.l3 q x t2 t6 xs0_1 ls2_4 ls2_8 xs2_9 xs3_1 xs3_2 = some r ∧ q ≤ q28 ∧ Tm 149 [(2, .pointer (some ⟨b1, 0, none⟩)), (4, .slice none 0 0), (5, .slice A3 m5 c4), (6, .slice A7 m9 c8), (7, .int .i64 xs0_1), (9, .slice As2_5 ms2_7 cs2_6), (11, .slice As2_1 ms2_3 cs2_2), (12, .int .i64 xs2_9), (64, .slice As2_1 ms2_3 cs2_2), (65, .int .i64 (ls2_4.length : Int)), (66, .int .i64 xs0_1), (67, .bool (decide ((ls2_4.length : Int) < xs0_1))), (13, .int .i64 xs3_1), (14, .int .i64 xs3_2)] a ∧ Ms X (fps []) w0 [.vec As2_1 cs2_2 2 1 ms2_3 (ints ls2_4), .vec As2_5 cs2_6 2 1 ms2_7 (ints ls2_8), .vec A7 c8 2 1 m9 (ints t6), .vec A3 c4 2 1 m5 (ints t2), .blk b1 28 (Col.cells x)] [] w) (k0 := q28) ⟨(-1), 0, H, Nat.le_refl _, ht.sub ⟨rfl, rfl, rfl, rfl, rfl, rfl, rfl, rfl, rfl, rfl, rfl, rfl, rfl, rfl, trivial⟩, (hm.pick [0, 1, 2, 3, 4] rfl (by decide)).pickφ [] rfl⟩ ?_
        clear H ht hm
        intro q30 a w hJ
        obtain ⟨xs3_1, xs3_2, H, hqq30, ht, hm⟩ := hJ
        cases q30 with
        | zero => cases H
        | succ q30 =>
        rw [spec_l04Path.l3] at H
        refine wp_seq ?_
        refine wp_seq ?_
        refine wpr ?_
        refine wpl rfl rfl ht (ev_move ht rfl rfl) ?_
        intro a ht
        refine wpl rfl rfl ht (ev_fieldAddr ht rfl rfl fo_28_0) ?_
        intro a ht
        refine wpl rfl rfl ht (ev_load ht rfl rfl sc_2 (hm.blk_cell 4 rfl rfl)) ?_
        intro a ht
        refine wpl rfl rfl ht (ev_cmp ht rfl rfl rfl rfl) ?_
        intro a ht
        refine wpl rfl rfl ht (ev_move ht rfl rfl) ?_
        intro a ht
        by_cases h31 : xs3_2 < x.p
        · replace H := ite_yes h31 H
          refine wpl_yes rfl ht rfl ((decide_eq_true h31)) ?_
          refine wpl rfl rfl ht (ev_move ht rfl rfl) ?_
          intro a ht
          refine wpl_yes rfl ht rfl ((decide_eq_true h31)) ?_
          refine wpl rfl rfl ht (ev_cmp ht rfl rfl rfl rfl) ?_
          intro a ht
          refine wpl rfl rfl ht (ev_pick_yes ht rfl rfl (decide_eq_true h31) rfl) ?_
          intro a ht
          refine wpList_nil ?_
          refine then_normal ?_
          by_cases h32 : xs3_1 < 0
          · replace H := ite_yes h32 H
            refine wpc_yes ht rfl (decide_eq_true h32) ?_
            refine wp_skip ?_
            refine then_normal ?_
            refine wp_seq ?_
            refine wp_block ?_
            refine wp_seq ?_
            refine wpr ?_
            refine wpl rfl rfl ht (ev_assign ht rfl rfl) ?_
            intro a ht
            refine wpList_nil ?_
            refine then_normal ?_
            refine wp_block ?_
            refine wpLoop (fun q a w => ∃ (xs4_1 : Int) (xs4_2 : Int), spec_l04Path.l4 q x t2 t6 xs0_1 ls2_4 ls2_8 xs2_9 xs3_2 xs4_1 xs4_2 = some r ∧ q ≤ q30 ∧ Tm 149 [(2, .pointer (some ⟨b1, 0, none⟩)), (4, .slice none 0 0), (5, .slice A3 m5 c4), (6, .slice A7 m9 c8), (7, .int .i64 xs0_1), (9, .slice As2_5 ms2_7 cs2_6), (11, .slice As2_1 ms2_3 cs2_2), (12, .int .i64 xs2_9), (14, .int .i64 xs3_2), (64, .slice As2_1 ms2_3 cs2_2), (65, .int .i64 (ls2_4.length : Int)), (66, .int .i64 xs0_1), (67, .bool (decide ((ls2_4.length : Int) < xs0_1))), (68, .int .i64 xs3_2), (69, .pointer (some ⟨b1, 0 + 0, none⟩)), (70, .int .i64 x.p), (71, .bool (decide (xs3_2 < x.p))), (72, .bool (decide (xs3_2 < x.p))), (73, .int .i64 xs3_1), (74, .bool (decide (xs3_1 < 0))), (75, .bool (decide (xs3_1 < 0))), (13, .int .i64 xs4_1), (15, .int .i64 xs4_2)] a ∧ Ms X (fps []) w0 [.vec As2_1 cs2_2 2 1 ms2_3 (ints ls2_4), .vec As2_5 cs2_6 2 1 ms2_7 (ints ls2_8), .vec A7 c8 2 1 m9 (ints t6), .vec A3 c4 2 1 m5 (ints t2), .blk b1 28 (Col.cells x)] [] w) (k0 := q30) ⟨xs3_1, 0, H, Nat.le_refl _, ht.sub ⟨rfl, rfl, rfl, rfl, rfl, rfl, rfl, rfl, rfl, rfl, rfl, rfl, rfl, rfl, rfl, rfl, rfl, rfl, rfl, rfl, rfl, rfl, rfl, trivial⟩, (hm.pick [0, 1, 2, 3, 4] rfl (by decide)).pickφ [] rfl⟩ ?_
            clear H ht hm
            intro q33 a w hJ
            obtain ⟨xs4_1, xs4_2, H, hqq33, ht, hm⟩ := hJ
            cases q33 with
            | zero => cases H
            | succ q33 =>
            rw [spec_l04Path.l4] at H
            refine wp_seq ?_
            refine wp_seq ?_
            refine wpr ?_
            refine wpl rfl rfl ht (ev_move ht rfl rfl) ?_
            intro a ht
            refine wpl rfl rfl ht (ev_move ht rfl rfl) ?_
            intro a ht
            refine wpl rfl rfl ht (ev_len_of ht rfl rfl und_25 (hm.vec_row 1 rfl)) ?_
            intro a ht
            refine wpl rfl rfl ht (ev_cmp ht rfl rfl rfl rfl) ?_
            intro a ht
            refine wpl rfl rfl ht (ev_move ht rfl rfl) ?_
            intro a ht
            by_cases h34 : xs4_2 < (ls2_8.length : Int)
            · replace H := ite_yes h34 H
              refine wpl_yes rfl ht rfl ((decide_eq_true h34)) ?_
              refine wpl rfl rfl ht (ev_move ht rfl rfl) ?_
              intro a ht
              refine wpl_yes rfl ht rfl ((decide_eq_true h34)) ?_
              refine wpl rfl rfl ht (ev_cmp ht rfl rfl rfl rfl) ?_
              intro a ht
              refine wpl rfl rfl ht (ev_pick_yes ht rfl rfl (decide_eq_true h34) rfl) ?_
              intro a ht
              refine wpl rfl rfl ht (ev_move ht rfl rfl) ?_
              intro a ht
              by_cases h35 : xs4_1 < 0
              · replace H := ite_yes h35 H
                refine wpl_yes rfl ht rfl ((decide_eq_true h35)) ?_
                refine wpl rfl rfl ht (ev_move ht rfl rfl) ?_
                intro a ht
                refine wpl_yes rfl ht rfl ((decide_eq_true h35)) ?_
                refine wpl rfl rfl ht (ev_move ht rfl rfl) ?_
                intro a ht
                refine wpl_yes rfl ht rfl ((decide_eq_true h35)) ?_
                refine wpl rfl rfl ht (ev_convert ht rfl rfl und_2 und_53) ?_
                intro a ht
                refine wpl_yes rfl ht rfl ((decide_eq_true h35)) ?_
                refine wpl rfl rfl ht (ev_shr ht rfl rfl rfl (wrapU_nonneg _ _ rfl)) ?_
                intro a ht
                refine wpl_yes rfl ht rfl ((decide_eq_true h35)) ?_
                refine wpl rfl rfl ht (ev_bit ht rfl rfl rfl rfl) ?_
                intro a ht
                refine wpl_yes rfl ht rfl ((decide_eq_true h35)) ?_
                refine wpl rfl rfl ht (ev_cmp ht rfl rfl rfl rfl) ?_
                intro a ht
                refine wpl rfl rfl ht (ev_pick_yes ht rfl rfl (decide_eq_true h35) rfl) ?_
                intro a ht
                refine wpList_nil ?_
                refine then_normal ?_
                by_cases h36 : (bitop .and .i64 (shrI .i64 xs2_9 (wu64 xs3_2)) 1) = 1
                · replace H := ite_yes h36 H
                  refine wpc_yes ht rfl (decide_eq_true h36) ?_
                  refine wp_skip ?_
                  refine then_normal ?_
                  refine wp_seq ?_
                  refine wp_block ?_
                  refine wp_seq ?_
                  refine wpr ?_
                  refine wpl rfl rfl ht (ev_move ht rfl rfl) ?_
                  intro a ht
                  refine wpl rfl rfl ht (ev_move ht rfl rfl) ?_
                  intro a ht
                  refine wpl rfl rfl ht (ev_move ht rfl rfl) ?_
                  intro a ht
                  obtain ⟨t37, et37, H⟩ := bind_get H
                  refine wpl rfl rfl ht (ev_index_ints ht rfl rfl rfl so_25 (hm.vec_row 1 rfl) et37) ?_
                  intro a ht
                  refine wpl rfl rfl ht (ev_load ht rfl rfl sc_2 (RowAt.cell (hm.vec_row 1 rfl) (ints_get et37) rfl)) ?_
                  intro a ht
                  obtain ⟨t38, et38, H⟩ := bind_get H
                  refine wpl rfl rfl ht (ev_index_ints ht rfl rfl rfl so_25 (hm.vec_row 2 rfl) et38) ?_
                  intro a ht
                  refine wpl rfl rfl ht (ev_load ht rfl rfl sc_2 (RowAt.cell (hm.vec_row 2 rfl) (ints_get et38) rfl)) ?_
                  intro a ht
                  refine wpl rfl rfl ht (ev_move ht rfl rfl) ?_
                  intro a ht
                  refine wpl rfl rfl ht (ev_convert ht rfl rfl und_2 und_53) ?_
                  intro a ht
                  refine wpl rfl rfl ht (ev_shr ht rfl rfl rfl (wrapU_nonneg _ _ rfl)) ?_
                  intro a ht
                  refine wpl rfl rfl ht (ev_bit ht rfl rfl rfl rfl) ?_
                  intro a ht
                  refine wpl rfl rfl ht (ev_cmp ht rfl rfl rfl rfl) ?_
                  intro a ht
                  refine wpList_nil ?_
                  refine then_normal ?_
                  by_cases h39 : (bitop .and .i64 (shrI .i64 t38 (wu64 xs3_2)) 1) = 1
                  · replace H := ite_yes h39 H
                    refine wpc_yes ht rfl (decide_eq_true h39) ?_
                    refine wpr ?_
                    refine wpl rfl rfl ht (ev_move ht rfl rfl) ?_
                    intro a ht
                    refine wpl rfl rfl ht (ev_assign ht rfl rfl) ?_
                    intro a ht
                    refine wpList_nil ?_
                    refine blk_normal ?_
                    refine then_normal ?_
                    refine wpr ?_
                    refine wpl rfl rfl ht (ev_move ht rfl rfl) ?_
                    intro a ht
                    refine wpl rfl rfl ht (ev_arith ht rfl rfl rfl rfl) ?_
                    intro a ht
                    refine wpl rfl rfl ht (ev_assign ht rfl rfl) ?_
                    intro a ht
                    refine wpList_nil ?_
                    exact then_normal ⟨q33, by omega, xs3_2, (w64 (xs4_2 + 1)), H, by omega, ht.sub ⟨rfl, rfl, rfl, rfl, rfl, rfl, rfl, rfl, rfl, rfl, rfl, rfl, rfl, rfl, rfl, rfl, rfl, rfl, rfl, rfl, rfl, rfl, rfl, trivial⟩, (hm.pick [0, 1, 2, 3, 4] rfl (by decide)).pickφ [] rfl⟩
                  · replace H := ite_no h39 H
                    refine wpc_no ht rfl (decide_eq_false h39) ?_
                    refine wp_skip ?_
                    refine blk_normal ?_
                    refine then_normal ?_
                    refine wpr ?_
                    refine wpl rfl rfl ht (ev_move ht rfl rfl) ?_
                    intro a ht
                    refine wpl rfl rfl ht (ev_arith ht rfl rfl rfl rfl) ?_
                    intro a ht
                    refine wpl rfl rfl ht (ev_assign ht rfl rfl) ?_
                    intro a ht
                    refine wpList_nil ?_
                    exact then_normal ⟨q33, by omega, xs4_1, (w64 (xs4_2 + 1)), H, by omega, ht.sub ⟨rfl, rfl, rfl, rfl, rfl, rfl, rfl, rfl, rfl, rfl, rfl, rfl, rfl, rfl, rfl, rfl, rfl, rfl, rfl, rfl, rfl, rfl, rfl, trivial⟩, (hm.pick [0, 1, 2, 3, 4] rfl (by decide)).pickφ [] rfl⟩
                · replace H := ite_no h36 H
                  refine wpc_no ht rfl (decide_eq_false h36) ?_
                  refine wp_exit ?_
                  refine then_exit ?_
                  refine then_exit ?_
                  refine blk_hit ?_
                  refine blk_normal ?_
                  refine then_normal ?_
                  refine wpr ?_
                  refine wpl rfl rfl ht (ev_move ht rfl rfl) ?_
                  intro a ht
                  refine wpl rfl rfl ht (ev_arith ht rfl rfl rfl rfl) ?_
                  intro a ht
                  refine wpl rfl rfl ht (ev_assign ht rfl rfl) ?_
                  intro a ht
                  refine wpList_nil ?_
                  exact then_normal ⟨q33, by omega, xs4_1, (w64 (xs3_2 + 1)), H, by omega, ht.sub ⟨rfl, rfl, rfl, rfl, rfl, rfl, rfl, rfl, rfl, rfl, rfl, rfl, rfl, rfl, trivial⟩, (hm.pick [0, 1, 2, 3, 4] rfl (by decide)).pickφ [] rfl⟩
              · replace H := ite_no h35 H
                refine wpl_no rfl rfl ht rfl (by rw [(decide_eq_false h35)]; decide) ?_
                intro a ht
                refine wpl_no rfl rfl ht rfl (by rw [(decide_eq_false h35)]; decide) ?_
                intro a ht
                refine wpl_no rfl rfl ht rfl (by rw [(decide_eq_false h35)]; decide) ?_
                intro a ht
                refine wpl_no rfl rfl ht rfl (by rw [(decide_eq_false h35)]; decide) ?_
                intro a ht
                refine wpl_no rfl rfl ht rfl (by rw [(decide_eq_false h35)]; decide) ?_
                intro a ht
                refine wpl_no rfl rfl ht rfl (by rw [(decide_eq_false h35)]; decide) ?_
                intro a ht
                refine wpl rfl rfl ht (ev_pick_no ht rfl rfl (decide_eq_false h35) rfl) ?_
                intro a ht
                refine wpList_nil ?_
                refine then_normal ?_
                refine wpc_no ht rfl rfl ?_
                refine wp_exit ?_
                refine then_exit ?_
                refine then_exit ?_
                refine blk_hit ?_
                refine blk_normal ?_
                refine then_normal ?_
                refine wpr ?_
                refine wpl rfl rfl ht (ev_move ht rfl rfl) ?_
                intro a ht
                refine wpl rfl rfl ht (ev_arith ht rfl rfl rfl rfl) ?_
                intro a ht
                refine wpl rfl rfl ht (ev_assign ht rfl rfl) ?_
                intro a ht
                refine wpList_nil ?_
                exact then_normal ⟨q33, by omega, xs4_1, (w64 (xs3_2 + 1)), H, by omega, ht.sub ⟨rfl, rfl, rfl, rfl, rfl, rfl, rfl, rfl, rfl, rfl, rfl, rfl, rfl, rfl, trivial⟩, (hm.pick [0, 1, 2, 3, 4] rfl (by decide)).pickφ [] rfl⟩
            · replace H := ite_no h34 H
              refine wpl_no rfl rfl ht rfl (by rw [(decide_eq_false h34)]; decide) ?_
              intro a ht
              refine wpl_no rfl rfl ht rfl (by rw [(decide_eq_false h34)]; decide) ?_
              intro a ht
              refine wpl rfl rfl ht (ev_pick_no ht rfl rfl (decide_eq_false h34) rfl) ?_
              intro a ht
              refine wpl rfl rfl ht (ev_move ht rfl rfl) ?_
              intro a ht
              refine wpl_no rfl rfl ht rfl (by decide) ?_
              intro a ht
              refine wpl_no rfl rfl ht rfl (by decide) ?_
              intro a ht
              refine wpl_no rfl rfl ht rfl (by decide) ?_
              intro a ht
              refine wpl_no rfl rfl ht rfl (by decide) ?_
              intro a ht
              refine wpl_no rfl rfl ht rfl (by decide) ?_
              intro a ht
              refine wpl_no rfl rfl ht rfl (by decide) ?_
              intro a ht
              refine wpl rfl rfl ht (ev_pick_no ht rfl rfl rfl rfl) ?_
              intro a ht
              refine wpList_nil ?_
              refine then_normal ?_
              refine wpc_no ht rfl rfl ?_
              refine wp_exit ?_
              refine then_exit ?_
              refine then_exit ?_
              refine blk_hit ?_
              refine blk_normal ?_
              refine then_normal ?_
              refine wpr ?_
              refine wpl rfl rfl ht (ev_move ht rfl rfl) ?_
              intro a ht
              refine wpl rfl rfl ht (ev_arith ht rfl rfl rfl rfl) ?_
              intro a ht
              refine wpl rfl rfl ht (ev_assign ht rfl rfl) ?_
              intro a ht
              refine wpList_nil ?_
              exact then_normal ⟨q33, by omega, xs4_1, (w64 (xs3_2 + 1)), H, by omega, ht.sub ⟨rfl, rfl, rfl, rfl, rfl, rfl, rfl, rfl, rfl, rfl, rfl, rfl, rfl, rfl, trivial⟩, (hm.pick [0, 1, 2, 3, 4] rfl (by decide)).pickφ [] rfl⟩
          · replace H := ite_no h32 H
            refine wpc_no ht rfl (decide_eq_false h32) ?_
            refine wp_exit ?_
            refine then_exit ?_
            refine then_exit ?_
            refine blk_hit ?_
            refine then_normal ?_
            refine wp_seq ?_
            refine wpr ?_
            refine wpl_build_ints (l := ([] : List Int)) rfl rfl ht hm rfl und_25 zo_2 sz1_2 (by decide) rfl rfl rfl ?_
            intro A40 a ht w hm
            refine wpl rfl rfl ht (ev_assign ht rfl rfl) ?_
            intro a ht
            refine wpList_nil ?_
            refine then_normal ?_
            refine wp_seq ?_
            refine wp_seq ?_
            refine wpr ?_
            refine wpl rfl rfl ht (ev_assign ht rfl rfl) ?_
            intro a ht
            refine wpList_nil ?_
            refine then_normal ?_
            refine wp_block ?_
            refine wpLoop (fun q a w => ∃ (ls5_4 : List Int) (xs5_5 : Int) (As5_1 : Option Addr) (cs5_2 : Nat) (ms5_3 : Nat), spec_l04Path.l5 q x t2 t6 xs0_1 ls2_4 ls2_8 xs3_1 ls5_4 xs5_5 = some r ∧ q ≤ q30 ∧ Tm 149 [(2, .pointer (some ⟨b1, 0, none⟩)), (4, .slice none 0 0), (5, .slice A3 m5 c4), (6, .slice A7 m9 c8), (7, .int .i64 xs0_1), (9, .slice As2_5 ms2_7 cs2_6), (11, .slice As2_1 ms2_3 cs2_2), (12, .int .i64 xs2_9), (13, .int .i64 xs3_1), (14, .int .i64 xs3_2), (16, .slice As5_1 ms5_3 cs5_2), (64, .slice As2_1 ms2_3 cs2_2), (65, .int .i64 (ls2_4.length : Int)), (66, .int .i64 xs0_1), (67, .bool (decide ((ls2_4.length : Int) < xs0_1))), (68, .int .i64 xs3_2), (69, .pointer (some ⟨b1, 0 + 0, none⟩)), (70, .int .i64 x.p), (71, .bool (decide (xs3_2 < x.p))), (72, .bool (decide (xs3_2 < x.p))), (73, .int .i64 xs3_1), (74, .bool (decide (xs3_1 < 0))), (75, .bool (decide (xs3_1 < 0))), (17, .int .i64 xs5_5)] a ∧ Ms X (fps []) w0 [.vec As5_1 cs5_2 2 1 ms5_3 (ints ls5_4), .vec As2_1 cs2_2 2 1 ms2_3 (ints ls2_4), .vec As2_5 cs2_6 2 1 ms2_7 (ints ls2_8), .vec A7 c8 2 1 m9 (ints t6), .vec A3 c4 2 1 m5 (ints t2), .blk b1 28 (Col.cells x)] [] w) (k0 := q30) ⟨([] : List Int), 0, A40, 0, 0, H, Nat.le_refl _, ht.sub ⟨rfl, rfl, rfl, rfl, rfl, rfl, rfl, rfl, rfl, rfl, rfl, rfl, rfl, rfl, rfl, rfl, rfl, rfl, rfl, rfl, rfl, rfl, rfl, rfl, trivial⟩, (hm.pick [0, 1, 2, 3, 4, 5] rfl (by decide)).pickφ [] rfl⟩ ?_
            clear H ht hm
            intro q41 a w hJ
            obtain ⟨ls5_4, xs5_5, As5_1, cs5_2, ms5_3, H, hqq41, ht, hm⟩ := hJ
            cases q41 with
            | zero => cases H
            | succ q41 =>
            rw [spec_l04Path.l5] at H
            refine wp_seq ?_
            refine wp_seq ?_
            refine wpr ?_
            refine wpl rfl rfl ht (ev_move ht rfl rfl) ?_
            intro a ht
            refine wpl rfl rfl ht (ev_move ht rfl rfl) ?_
            intro a ht
            refine wpl rfl rfl ht (ev_len_of ht rfl rfl und_25 (hm.vec_row 2 rfl)) ?_
            intro a ht
            refine wpl rfl rfl ht (ev_cmp ht rfl rfl rfl rfl) ?_
            intro a ht
            refine wpList_nil ?_
            refine then_normal ?_
            by_cases h42 : xs5_5 < (ls2_8.length : Int)
            · replace H := ite_yes h42 H
              refine wpc_yes ht rfl (decide_eq_true h42) ?_
              refine wp_skip ?_
              refine then_normal ?_
              refine wp_seq ?_
              refine wp_block ?_
              refine wp_seq ?_
              refine wpr ?_
              refine wpl rfl rfl ht (ev_move ht rfl rfl) ?_
              intro a ht
              refine wpl rfl rfl ht (ev_move ht rfl rfl) ?_
              intro a ht
              refine wpl rfl rfl ht (ev_move ht rfl rfl) ?_
              intro a ht
              obtain ⟨t43, et43, H⟩ := bind_get H
              refine wpl rfl rfl ht (ev_index_ints ht rfl rfl rfl so_25 (hm.vec_row 2 rfl) et43) ?_
              intro a ht
              refine wpl rfl rfl ht (ev_load ht rfl rfl sc_2 (RowAt.cell (hm.vec_row 2 rfl) (ints_get et43) rfl)) ?_
              intro a ht
              obtain ⟨t44, et44, H⟩ := bind_get H
              refine wpl rfl rfl ht (ev_index_ints ht rfl rfl rfl so_25 (hm.vec_row 3 rfl) et44) ?_
              intro a ht
              refine wpl rfl rfl ht (ev_load ht rfl rfl sc_2 (RowAt.cell (hm.vec_row 3 rfl) (ints_get et44) rfl)) ?_
              intro a ht
              refine wpl rfl rfl ht (ev_move ht rfl rfl) ?_
              intro a ht
              refine wpl rfl rfl ht (ev_convert ht rfl rfl und_2 und_53) ?_
              intro a ht
              refine wpl rfl rfl ht (ev_shr ht rfl rfl rfl (wrapU_nonneg _ _ rfl)) ?_
              intro a ht
              refine wpl rfl rfl ht (ev_bit ht rfl rfl rfl rfl) ?_
              intro a ht
              refine wpl rfl rfl ht (ev_cmp ht rfl rfl rfl rfl) ?_
              intro a ht
              refine wpList_nil ?_
              refine then_normal ?_
              by_cases h45 : (bitop .and .i64 (shrI .i64 t44 (wu64 xs3_1)) 1) = 1
              · replace H := ite_yes h45 H
                refine wpc_yes ht rfl (decide_eq_true h45) ?_
                refine wpr ?_
                refine wpl rfl rfl ht (ev_move ht rfl rfl) ?_
                intro a ht
                refine wpl rfl rfl ht (ev_move ht rfl rfl) ?_
                intro a ht
                refine wpl rfl rfl ht (ev_move ht rfl rfl) ?_
                intro a ht
                obtain ⟨t46, et46, H⟩ := bind_get H
                refine wpl rfl rfl ht (ev_index_ints ht rfl rfl rfl so_25 (hm.vec_row 2 rfl) et46) ?_
                intro a ht
                refine wpl rfl rfl ht (ev_load ht rfl rfl sc_2 (RowAt.cell (hm.vec_row 2 rfl) (ints_get et46) rfl)) ?_
                intro a ht
                refine wpl rfl rfl ht (ev_move ht rfl rfl) ?_
                intro a ht
                refine wpl rfl rfl ht (ev_convert ht rfl rfl und_2 und_53) ?_
                intro a ht
                refine wpl rfl rfl ht (ev_shl ht rfl rfl rfl (wrapU_nonneg _ _ rfl)) ?_
                intro a ht
                refine wpl rfl rfl ht (ev_bit ht rfl rfl rfl rfl) ?_
                intro a ht
                refine wpl_build_ints (l := [bitop .xor .i64 t46 (shlI .i64 1 (wu64 xs3_1))]) rfl rfl ht hm rfl und_25 zo_2 sz1_2 (by decide) rfl rfl rfl ?_
                intro A47 a ht w hm
                obtain ⟨l51, el51, H⟩ := bind_get H
                refine wpl_push (r := l51) 1 0 rfl rfl ht hm rfl ap_25 rfl rfl rfl rfl el51 ?_
                intro A48 c49 m50 a ht w hm
                refine wpl rfl rfl ht (ev_assign ht rfl rfl) ?_
                intro a ht
                refine wpList_nil ?_
                refine blk_normal ?_
                refine then_normal ?_
                refine wpr ?_
                refine wpl rfl rfl ht (ev_move ht rfl rfl) ?_
                intro a ht
                refine wpl rfl rfl ht (ev_arith ht rfl rfl rfl rfl) ?_
                intro a ht
                refine wpl rfl rfl ht (ev_assign ht rfl rfl) ?_
                intro a ht
                refine wpList_nil ?_
                exact then_normal ⟨q41, by omega, l51, (w64 (xs5_5 + 1)), A48, c49, m50, H, by omega, ht.sub ⟨rfl, rfl, rfl, rfl, rfl, rfl, rfl, rfl, rfl, rfl, rfl, rfl, rfl, rfl, rfl, rfl, rfl, rfl, rfl, rfl, rfl, rfl, rfl, rfl, trivial⟩, (hm.pick [1, 2, 3, 4, 5, 6] rfl (by decide)).pickφ [] rfl⟩
              · replace H := ite_no h45 H
                refine wpc_no ht rfl (decide_eq_false h45) ?_
                refine wp_skip ?_
                refine blk_normal ?_
                refine then_normal ?_
                refine wpr ?_
                refine wpl rfl rfl ht (ev_move ht rfl rfl) ?_
                intro a ht
                refine wpl rfl rfl ht (ev_arith ht rfl rfl rfl rfl) ?_
                intro a ht
                refine wpl rfl rfl ht (ev_assign ht rfl rfl) ?_
                intro a ht
                refine wpList_nil ?_
                exact then_normal ⟨q41, by omega, ls5_4, (w64 (xs5_5 + 1)), As5_1, cs5_2, ms5_3, H, by omega, ht.sub ⟨rfl, rfl, rfl, rfl, rfl, rfl, rfl, rfl, rfl, rfl, rfl, rfl, rfl, rfl, rfl, rfl, rfl, rfl, rfl, rfl, rfl, rfl, rfl, rfl, trivial⟩, (hm.pick [0, 1, 2, 3, 4, 5] rfl (by decide)).pickφ [] rfl⟩
            · replace H := ite_no h42 H
              refine wpc_no ht rfl (decide_eq_false h42) ?_
              refine wp_exit ?_
              refine then_exit ?_
              refine then_exit ?_
              refine blk_hit ?_
              refine then_normal ?_
              refine wp_seq ?_
              refine wpr ?_
              refine wpl rfl rfl ht (ev_move ht rfl rfl) ?_
              intro a ht
              refine wpl rfl rfl ht (ev_move ht rfl rfl) ?_
              intro a ht
              refine wpl_build_ints (l := [xs3_1]) rfl rfl ht hm rfl und_25 zo_2 sz1_2 (by decide) rfl rfl rfl ?_
              intro A52 a ht w hm
              obtain ⟨l56, el56, H⟩ := bind_get H
              refine wpl_push (r := l56) 2 0 rfl rfl ht hm rfl ap_25 rfl rfl rfl rfl el56 ?_
              intro A53 c54 m55 a ht w hm
              refine wpl rfl rfl ht (ev_assign ht rfl rfl) ?_
              intro a ht
              refine wpList_nil ?_
              refine then_normal ?_
              refine wp_seq ?_
              refine wpr ?_
              refine wpl rfl rfl ht (ev_move ht rfl rfl) ?_
              intro a ht
              refine wpl rfl rfl ht (ev_assign ht rfl rfl) ?_
              intro a ht
              refine wpList_nil ?_
              refine then_normal ?_
              refine wpr ?_
              refine wpl rfl rfl ht (ev_move ht rfl rfl) ?_
              intro a ht
              refine wpl rfl rfl ht (ev_move ht rfl rfl) ?_
              intro a ht
              obtain ⟨t57, et57, H⟩ := bind_get H
              refine wpl rfl rfl ht (ev_index_ints ht rfl rfl rfl so_25 (hm.vec_row 5 rfl) et57) ?_
              intro a ht
              refine wpl rfl rfl ht (ev_load ht rfl rfl sc_2 (RowAt.cell (hm.vec_row 5 rfl) (ints_get et57) rfl)) ?_
              intro a ht
              refine wpl rfl rfl ht (ev_assign ht rfl rfl) ?_
              intro a ht
              refine wpList_nil ?_
              refine blk_normal ?_
              replace hm := hm.pick (own' := [.vec A52 1 2 1 1 (ints ([xs3_1])), .vec As5_1 cs5_2 2 1 ms5_3 (ints ls5_4), .vec A53 c54 2 1 m55 (ints l56), .vec A7 c8 2 1 m9 (ints t6), .vec A3 c4 2 1 m5 (ints t2), .blk b1 28 (Col.cells x)]) [0, 1, 2, 4, 5, 6] rfl (by decide)
              exact then_normal ⟨q41, by omega, l56, ls5_4, t57, A53, c54, m55, As5_1, cs5_2, ms5_3, H, by omega, ht.sub ⟨rfl, rfl, rfl, rfl, rfl, rfl, rfl, rfl, trivial⟩, (hm.pick [2, 1, 3, 4, 5] rfl (by decide)).pickφ [] rfl⟩
        · replace H := ite_no h31 H
          refine wpl_no rfl rfl ht rfl (by rw [(decide_eq_false h31)]; decide) ?_
          intro a ht
          refine wpl_no rfl rfl ht rfl (by rw [(decide_eq_false h31)]; decide) ?_
          intro a ht
          refine wpl rfl rfl ht (ev_pick_no ht rfl rfl (decide_eq_false h31) rfl) ?_
          intro a ht
          refine wpList_nil ?_
          refine then_normal ?_
          refine wpc_no ht rfl rfl ?_
          refine wp_exit ?_
          refine then_exit ?_
          refine then_exit ?_
          refine blk_hit ?_
          refine then_normal ?_
          refine wp_seq ?_
          refine wpr ?_
          refine wpl_build_ints (l := ([] : List Int)) rfl rfl ht hm rfl und_25 zo_2 sz1_2 (by decide) rfl rfl rfl ?_
          intro A58 a ht w hm
          refine wpl rfl rfl ht (ev_assign ht rfl rfl) ?_
          intro a ht
          refine wpList_nil ?_
          refine then_normal ?_
          refine wp_seq ?_
          refine wp_seq ?_
          refine wpr ?_
          refine wpl rfl rfl ht (ev_assign ht rfl rfl) ?_
          intro a ht
          refine wpList_nil ?_
          refine then_normal ?_
          refine wp_block ?_
          refine wpLoop (fun q a w => ∃ (ls6_4 : List Int) (xs6_5 : Int) (As6_1 : Option Addr) (cs6_2 : Nat) (ms6_3 : Nat), spec_l04Path.l6 q x t2 t6 xs0_1 ls2_4 ls2_8 xs3_1 ls6_4 xs6_5 = some r ∧ q ≤ q30 ∧ Tm 149 [(2, .pointer (some ⟨b1, 0, none⟩)), (4, .slice none 0 0), (5, .slice A3 m5 c4), (6, .slice A7 m9 c8), (7, .int .i64 xs0_1), (9, .slice As2_5 ms2_7 cs2_6), (11, .slice As2_1 ms2_3 cs2_2), (12, .int .i64 xs2_9), (13, .int .i64 xs3_1), (14, .int .i64 xs3_2), (16, .slice As6_1 ms6_3 cs6_2), (64, .slice As2_1 ms2_3 cs2_2), (65, .int .i64 (ls2_4.length : Int)), (66, .int .i64 xs0_1), (67, .bool (decide ((ls2_4.length : Int) < xs0_1))), (68, .int .i64 xs3_2), (69, .pointer (some ⟨b1, 0 + 0, none⟩)), (70, .int .i64 x.p), (71, .bool (decide (xs3_2 < x.p))), (72, .bool (decide (xs3_2 < x.p))), (75, .bool false), (17, .int .i64 xs6_5)] a ∧ Ms X (fps []) w0 [.vec As6_1 cs6_2 2 1 ms6_3 (ints ls6_4), .vec As2_1 cs2_2 2 1 ms2_3 (ints ls2_4), .vec As2_5 cs2_6 2 1 ms2_7 (ints ls2_8), .vec A7 c8 2 1 m9 (ints t6), .vec A3 c4 2 1 m5 (ints t2), .blk b1 28 (Col.cells x)] [] w) (k0 := q30) ⟨([] : List Int), 0, A58, 0, 0, H, Nat.le_refl _, ht.sub ⟨rfl, rfl, rfl, rfl, rfl, rfl, rfl, rfl, rfl, rfl, rfl, rfl, rfl, rfl, rfl, rfl, rfl, rfl, rfl, rfl, rfl, rfl, trivial⟩, (hm.pick [0, 1, 2, 3, 4, 5] rfl (by decide)).pickφ [] rfl⟩ ?_
          clear H ht hm
          intro q59 a w hJ
          obtain ⟨ls6_4, xs6_5, As6_1, cs6_2, ms6_3, H, hqq59, ht, hm⟩ := hJ
          cases q59 with
          | zero => cases H
          | succ q59 =>
          rw [spec_l04Path.l6] at H
          refine wp_seq ?_
          refine wp_seq ?_
          refine wpr ?_
          refine wpl rfl rfl ht (ev_move ht rfl rfl) ?_
          intro a ht
          refine wpl rfl rfl ht (ev_move ht rfl rfl) ?_
          intro a ht
          refine wpl rfl rfl ht (ev_len_of ht rfl rfl und_25 (hm.vec_row 2 rfl)) ?_
          intro a ht
          refine wpl rfl rfl ht (ev_cmp ht rfl rfl rfl rfl) ?_
          intro a ht
          refine wpList_nil ?_
          refine then_normal ?_
          by_cases h60 : xs6_5 < (ls2_8.length : Int)
          · replace H := ite_yes h60 H
            refine wpc_yes ht rfl (decide_eq_true h60) ?_
            refine wp_skip ?_
            refine then_normal ?_
            refine wp_seq ?_
            refine wp_block ?_
            refine wp_seq ?_
            refine wpr ?_
            refine wpl rfl rfl ht (ev_move ht rfl rfl) ?_
            intro a ht
            refine wpl rfl rfl ht (ev_move ht rfl rfl) ?_
            intro a ht
            refine wpl rfl rfl ht (ev_move ht rfl rfl) ?_
            intro a ht
            obtain ⟨t61, et61, H⟩ := bind_get H
            refine wpl rfl rfl ht (ev_index_ints ht rfl rfl rfl so_25 (hm.vec_row 2 rfl) et61) ?_
            intro a ht
            refine wpl rfl rfl ht (ev_load ht rfl rfl sc_2 (RowAt.cell (hm.vec_row 2 rfl) (ints_get et61) rfl)) ?_
            intro a ht
            obtain ⟨t62, et62, H⟩ := bind_get H
            refine wpl rfl rfl ht (ev_index_ints ht rfl rfl rfl so_25 (hm.vec_row 3 rfl) et62) ?_
            intro a ht
            refine wpl rfl rfl ht (ev_load ht rfl rfl sc_2 (RowAt.cell (hm.vec_row 3 rfl) (ints_get et62) rfl)) ?_
            intro a ht
            refine wpl rfl rfl ht (ev_move ht rfl rfl) ?_
            intro a ht
            refine wpl rfl rfl ht (ev_convert ht rfl rfl und_2 und_53) ?_
            intro a ht
            refine wpl rfl rfl ht (ev_shr ht rfl rfl rfl (wrapU_nonneg _ _ rfl)) ?_
            intro a ht
            refine wpl rfl rfl ht (ev_bit ht rfl rfl rfl rfl) ?_
            intro a ht
            refine wpl rfl rfl ht (ev_cmp ht rfl rfl rfl rfl) ?_
            intro a ht
            refine wpList_nil ?_
            refine then_normal ?_
            by_cases h63 : (bitop .and .i64 (shrI .i64 t62 (wu64 xs3_1)) 1) = 1
            · replace H := ite_yes h63 H
              refine wpc_yes ht rfl (decide_eq_true h63) ?_
              refine wpr ?_
              refine wpl rfl rfl ht (ev_move ht rfl rfl) ?_
              intro a ht
              refine wpl rfl rfl ht (ev_move ht rfl rfl) ?_
              intro a ht
              refine wpl rfl rfl ht (ev_move ht rfl rfl) ?_
              intro a ht
              obtain ⟨t64, et64, H⟩ := bind_get H
              refine wpl rfl rfl ht (ev_index_ints ht rfl rfl rfl so_25 (hm.vec_row 2 rfl) et64) ?_
              intro a ht
              refine wpl rfl rfl ht (ev_load ht rfl rfl sc_2 (RowAt.cell (hm.vec_row 2 rfl) (ints_get et64) rfl)) ?_
              intro a ht
              refine wpl rfl rfl ht (ev_move ht rfl rfl) ?_
              intro a ht
              refine wpl rfl rfl ht (ev_convert ht rfl rfl und_2 und_53) ?_
              intro a ht
              refine wpl rfl rfl ht (ev_shl ht rfl rfl rfl (wrapU_nonneg _ _ rfl)) ?_
              intro a ht
              refine wpl rfl rfl ht (ev_bit ht rfl rfl rfl rfl) ?_
              intro a ht
              refine wpl_build_ints (l := [bitop .xor .i64 t64 (shlI .i64 1 (wu64 xs3_1))]) rfl rfl ht hm rfl und_25 zo_2 sz1_2 (by decide) rfl rfl rfl ?_
              intro A65 a ht w hm
              obtain ⟨l69, el69, H⟩ := bind_get H
              refine wpl_push (r := l69) 1 0 rfl rfl ht hm rfl ap_25 rfl rfl rfl rfl el69 ?_
              intro A66 c67 m68 a ht w hm
              refine wpl rfl rfl ht (ev_assign ht rfl rfl) ?_
              intro a ht
              refine wpList_nil ?_
              refine blk_normal ?_
              refine then_normal ?_
              refine wpr ?_
              refine wpl rfl rfl ht (ev_move ht rfl rfl) ?_
              intro a ht
              refine wpl rfl rfl ht (ev_arith ht rfl rfl rfl rfl) ?_
              intro a ht
              refine wpl rfl rfl ht (ev_assign ht rfl rfl) ?_
              intro a ht
              refine wpList_nil ?_
              exact then_normal ⟨q59, by omega, l69, (w64 (xs6_5 + 1)), A66, c67, m68, H, by omega, ht.sub ⟨rfl, rfl, rfl, rfl, rfl, rfl, rfl, rfl, rfl, rfl, rfl, rfl, rfl, rfl, rfl, rfl, rfl, rfl, rfl, rfl, rfl, rfl, trivial⟩, (hm.pick [1, 2, 3, 4, 5, 6] rfl (by decide)).pickφ [] rfl⟩
            · replace H := ite_no h63 H
              refine wpc_no ht rfl (decide_eq_false h63) ?_
              refine wp_skip ?_
              refine blk_normal ?_
              refine then_normal ?_
              refine wpr ?_
              refine wpl rfl rfl ht (ev_move ht rfl rfl) ?_
              intro a ht
              refine wpl rfl rfl ht (ev_arith ht rfl rfl rfl rfl) ?_
              intro a ht
              refine wpl rfl rfl ht (ev_assign ht rfl rfl) ?_
              intro a ht
              refine wpList_nil ?_
              exact then_normal ⟨q59, by omega, ls6_4, (w64 (xs6_5 + 1)), As6_1, cs6_2, ms6_3, H, by omega, ht.sub ⟨rfl, rfl, rfl, rfl, rfl, rfl, rfl, rfl, rfl, rfl, rfl, rfl, rfl, rfl, rfl, rfl, rfl, rfl, rfl, rfl, rfl, rfl, trivial⟩, (hm.pick [0, 1, 2, 3, 4, 5] rfl (by decide)).pickφ [] rfl⟩
          · replace H := ite_no h60 H
            refine wpc_no ht rfl (decide_eq_false h60) ?_
            refine wp_exit ?_
            refine then_exit ?_
            refine then_exit ?_
            refine blk_hit ?_
            refine then_normal ?_
            refine wp_seq ?_
            refine wpr ?_
            refine wpl rfl rfl ht (ev_move ht rfl rfl) ?_
            intro a ht
            refine wpl rfl rfl ht (ev_move ht rfl rfl) ?_
            intro a ht
            refine wpl_build_ints (l := [xs3_1]) rfl rfl ht hm rfl und_25 zo_2 sz1_2 (by decide) rfl rfl rfl ?_
            intro A70 a ht w hm
            obtain ⟨l74, el74, H⟩ := bind_get H
            refine wpl_push (r := l74) 2 0 rfl rfl ht hm rfl ap_25 rfl rfl rfl rfl el74 ?_
            intro A71 c72 m73 a ht w hm
            refine wpl rfl rfl ht (ev_assign ht rfl rfl) ?_
            intro a ht
            refine wpList_nil ?_
            refine then_normal ?_
            refine wp_seq ?_
            refine wpr ?_
            refine wpl rfl rfl ht (ev_move ht rfl rfl) ?_
            intro a ht
            refine wpl rfl rfl ht (ev_assign ht rfl rfl) ?_
            intro a ht
            refine wpList_nil ?_
            refine then_normal ?_
            refine wpr ?_
            refine wpl rfl rfl ht (ev_move ht rfl rfl) ?_
            intro a ht
            refine wpl rfl rfl ht (ev_move ht rfl rfl) ?_
            intro a ht
            obtain ⟨t75, et75, H⟩ := bind_get H
            refine wpl rfl rfl ht (ev_index_ints ht rfl rfl rfl so_25 (hm.vec_row 5 rfl) et75) ?_
            intro a ht
            refine wpl rfl rfl ht (ev_load ht rfl rfl sc_2 (RowAt.cell (hm.vec_row 5 rfl) (ints_get et75) rfl)) ?_
            intro a ht
            refine wpl rfl rfl ht (ev_assign ht rfl rfl) ?_
            intro a ht
            refine wpList_nil ?_
            refine blk_normal ?_
            replace hm := hm.pick (own' := [.vec A70 1 2 1 1 (ints ([xs3_1])), .vec As6_1 cs6_2 2 1 ms6_3 (ints ls6_4), .vec A71 c72 2 1 m73 (ints l74), .vec A7 c8 2 1 m9 (ints t6), .vec A3 c4 2 1 m5 (ints t2), .blk b1 28 (Col.cells x)]) [0, 1, 2, 4, 5, 6] rfl (by decide)
            exact then_normal ⟨q59, by omega, l74, ls6_4, t75, A71, c72, m73, As6_1, cs6_2, ms6_3, H, by omega, ht.sub ⟨rfl, rfl, rfl, rfl, rfl, rfl, rfl, rfl, trivial⟩, (hm.pick [2, 1, 3, 4, 5] rfl (by decide)).pickφ [] rfl⟩
      · replace H := ite_no h29 H
        refine wpc_no ht rfl (decide_eq_false h29) ?_
        refine wp_exit ?_
        refine then_exit ?_
        refine then_exit ?_
        refine blk_hit ?_
        refine then_normal ?_
        refine wp_seq ?_
        refine wpr ?_
        refine wpl rfl rfl ht (ev_move ht rfl rfl) ?_
        intro a ht
        refine wpl rfl rfl ht (ev_assign ht rfl rfl) ?_
        intro a ht
        refine wpList_nil ?_
        refine then_normal ?_
        refine wp_ret ?_
        have hres := ht.res (P := Try.prog) (w := w) (rs := [.tmp 4]) (vs := [.slice As2_1 ms2_3 cs2_2]) (.tmp rfl .nil)
        obtain rfl := Option.some.inj H
        exact leave ht rfl hres ⟨As2_1, cs2_2, ms2_3, rfl, ((hm.pick [0] rfl (by decide)).pickφ [] rfl).post fun _ h => h⟩

end Go.Proofs.Ytjhcacfhahpdgaa.G
