/- What each Go function computes, as a Lean function, and the proof that it does: written by a program of this session (wip/gen), part 3. -/
import Derived.Test.YtjhcacfhahpdgaaGFnExactGreatestMatching2
namespace Go.Proofs.Ytjhcacfhahpdgaa.G
open Go Go.RowKit Go.Proofs.Ytjhcacfhahpdgaa.K
set_option linter.unusedVariables false
set_option linter.unusedSimpArgs false

/-! ### spec_l04Matching: function 28 (loop.example/g01362/spec.l04Matching) -/
mutual
def spec_l04Matching.l0 : Nat → Col → List Int → List Int → Int → Option (List (List Int))
  | 0, _, _, _, _ => none
  | q13006 + 1, x, t2502, ls0_1, xs0_2 => if xs0_2 < (ls0_1.length : Int) then ((getI ls0_1 xs0_2).bind fun t13008 => spec_l04Matching.l0 q13006 x t2502 (ls0_1.set xs0_2.toNat (-1)) (w64 (xs0_2 + 1))) else (spec_l04Matching.l1 q13006 x t2502 ls0_1 ([] : List (List Int)) (w64 ((shlI .i64 1 (wu64 x.p)) - 1)) 0)
def spec_l04Matching.l1 : Nat → Col → List Int → List Int → List (List Int) → Int → Int → Option (List (List Int))
  | 0, _, _, _, _, _, _ => none
  | q13009 + 1, x, t2502, ls1_1, ls1_5, xs1_7, xs1_8 => if xs1_8 < x.p then (if (bitop .and .i64 xs1_7 (shlI .i64 1 (wu64 xs1_8))) = 0 then (spec_l04Matching.l1 q13009 x t2502 ls1_1 ls1_5 xs1_7 (w64 (xs1_8 + 1))) else (spec_l04Matching.l2 q13009 x t2502 ls1_5 xs1_7 xs1_8 ls1_1 (w64 (xs1_8 + 1)))) else (some ls1_5)
def spec_l04Matching.l2 : Nat → Col → List Int → List (List Int) → Int → Int → List Int → Int → Option (List (List Int))
  | 0, _, _, _, _, _, _, _ => none
  | q13012 + 1, x, t2502, ls1_5, xs1_7, xs1_8, ls2_1, xs2_2 => if xs2_2 < x.p then (if (bitop .and .i64 (shrI .i64 (bitop .xor .i64 xs1_7 (shlI .i64 1 (wu64 xs1_8))) (wu64 xs2_2)) 1) = 1 then ((getI t2502 xs1_8).bind fun t13015 => if (bitop .and .i64 (shrI .i64 t13015 (wu64 xs2_2)) 1) = 1 then ((spec_l04Match.f q13012 t2502 ls2_1 (bitop .xor .i64 (bitop .xor .i64 xs1_7 (shlI .i64 1 (wu64 xs1_8))) (shlI .i64 1 (wu64 xs2_2)))).bind fun t13017 => (spec_l04Match.f q13012 t2502 t13017.2 xs1_7).bind fun t13018 => if (w64 (1 + t13017.1)) = t13018.1 then ((concatR ls1_5 ([[xs1_8, xs2_2]])).bind fun l13025 => spec_l04Matching.l1 q13012 x t2502 t13018.2 l13025 (bitop .xor .i64 (bitop .xor .i64 xs1_7 (shlI .i64 1 (wu64 xs1_8))) (shlI .i64 1 (wu64 xs2_2))) (w64 (xs1_8 + 1))) else (spec_l04Matching.l2 q13012 x t2502 ls1_5 xs1_7 xs1_8 t13018.2 (w64 (xs2_2 + 1)))) else (spec_l04Matching.l2 q13012 x t2502 ls1_5 xs1_7 xs1_8 ls2_1 (w64 (xs2_2 + 1)))) else (spec_l04Matching.l2 q13012 x t2502 ls1_5 xs1_7 xs1_8 ls2_1 (w64 (xs2_2 + 1)))) else (spec_l04Matching.l1 q13012 x t2502 ls2_1 ls1_5 (bitop .xor .i64 xs1_7 (shlI .i64 1 (wu64 xs1_8))) (w64 (xs1_8 + 1)))
end
def spec_l04Matching.f (k : Nat) (x : Col) (c : Int) : Option (List (List Int)) := (spec_l02Rows.f k x c).bind fun t2502 => (guardO (0 ≤ (shlI .i64 1 (wu64 x.p)) ∧ (shlI .i64 1 (wu64 x.p)) ≤ 1073741824)).bind fun _ => spec_l04Matching.l0 k x t2502 (List.replicate (shlI .i64 1 (wu64 x.p)).toNat (0 : Int)) 0
set_option maxRecDepth 100000 in
set_option maxHeartbeats 1000000 in
theorem spec_l04Matching.calls (k : Nat) (X : List Nat) (w0 : World)  (x : Col) (c : Int) (r : List (List Int))
    (hp : Pre X w0 [] []) (H : spec_l04Matching.f k x c = some r) :
    Calls Try.prog 28 [.agg (Col.cells x).toArray, .int .i64 c].toArray w0 (Ret fun v w => ∃ (A_0 : Option Addr) (c_0 : Nat) (n_0 : Nat) (vs_0 : List Value), v = .slice A_0 n_0 c_0 ∧ Post X (fps []) w0 [.vec A_0 c_0 25 1 n_0 vs_0] [AllInts vs_0 r] w) := by
  unfold spec_l04Matching.f at H
  refine enterM (n := 107) hp Try.func28 rfl rfl (Nat.le_of_ble_eq_true rfl) fun a w ht hm => ?_
  refine wp_seq ?_
  refine wpr ?_
  refine wpl_box rfl rfl ht hm rfl rfl rfl ?_
  intro b1 a ht w hm
  refine wpl rfl rfl ht (ev_assign ht rfl rfl) ?_
  intro a ht
  refine wpList_nil ?_
  refine then_normal ?_
  refine wp_seq ?_
  refine wph_begin (fun w => Ms X (fps []) w0 [.blk b1 28 (Col.cells x)] [] w) mixed ?_
  replace hm := hm.drew
  have hS : Ms X (fps []) w0 [.blk b1 28 (Col.cells x)] [] w.drew := (hm.pick [0] rfl (by decide)).pickφ [] rfl
  generalize w.drew = w at hm hS ⊢
  refine wph_take (i := 0) rfl (by kernel_rfl) (by kernel_rfl) (by kernel_rfl) (fun _ _ _ h => h) rfl ht hS (wanted_plain rfl) (fun w hm => ev_load_agg ht rfl rfl (ag_28.trans (by first | rw [Col.length_cells] | rfl)) (hm.blk_all 0 rfl)) ?_
  intro a ht
  refine wph_take (i := 1) rfl (by kernel_rfl) (by kernel_rfl) (by kernel_rfl) (fun _ _ _ h => h) rfl ht hS (wanted_plain rfl) (fun w hm => ev_move ht rfl rfl) ?_
  intro a ht
  refine wph_take (i := 3) rfl (by kernel_rfl) (by kernel_rfl) (by kernel_rfl) (fun _ _ _ h => h) rfl ht hS (wanted_plain rfl) (fun w hm => ev_fieldAddr ht rfl rfl fo_28_0) ?_
  intro a ht
  refine wph_take (i := 4) rfl (by kernel_rfl) (by kernel_rfl) (by kernel_rfl) (fun _ _ _ h => h) rfl ht hS (wanted_plain rfl) (fun w hm => ev_load ht rfl rfl sc_2 (hm.blk_cell 0 rfl rfl)) ?_
  intro a ht
  refine wph_take (i := 5) rfl (by kernel_rfl) (by kernel_rfl) (by kernel_rfl) (fun _ _ _ h => h) rfl ht hS (wanted_plain rfl) (fun w hm => ev_convert ht rfl rfl und_2 und_53) ?_
  intro a ht
  refine wph_take (i := 6) rfl (by kernel_rfl) (by kernel_rfl) (by kernel_rfl) (fun _ _ _ h => h) rfl ht hS (wanted_plain rfl) (fun w hm => ev_shl ht rfl rfl rfl (wrapU_nonneg _ _ rfl)) ?_
  intro a ht
  refine wph_take (i := 7) rfl (by kernel_rfl) (by kernel_rfl) (by kernel_rfl) (fun _ _ _ h => h) rfl ht hS (wanted_plain rfl) (fun w hm => ev_arith ht rfl rfl rfl rfl) ?_
  intro a ht
  refine wph_two (i := 2) (j := 8) (by kernel_rfl) ?_ ?_ 
  · refine wph_step rfl ?_
    obtain ⟨t2502, et2502, H⟩ := bind_get H
    have hcall := spec_l02Rows.calls k _ _ x c _ ((fun (hq : Ms _ _ _ ([] ++ [.blk b1 28 (Col.cells x)]) _ _) => hq.lend (φp := []) (allRO_nil)) (hm.pick (own' := [] ++ [.blk b1 28 (Col.cells x)]) [0] rfl (by decide))) et2502
    refine wpl_call _ rfl rfl ht rfl rfl rfl rfl can_36 hcall ?_
    clear hcall
    rintro _ w ⟨A2503, c2504, m2505, rfl, hpost⟩ a ht
    replace hm := (hm.pick (own' := [] ++ [.blk b1 28 (Col.cells x)]) [0] rfl (by decide)).backL hpost
    clear hpost
    have hS : Ms X (fps []) w0 [.blk b1 28 (Col.cells x)] [] w := (hm.pick [1] rfl (by decide)).pickφ [] rfl
    refine wpList_nil (qn ⟨hS, ?_⟩)
    refine wph_take (i := 9) rfl (by kernel_rfl) (by kernel_rfl) (by kernel_rfl) (fun _ _ _ h => h) rfl ht hS (wanted_plain rfl) (fun w hm => ev_assign ht rfl rfl) ?_
    intro a ht
    refine wph_take (i := 10) rfl (by kernel_rfl) (by kernel_rfl) (by kernel_rfl) (fun _ _ _ h => h) rfl ht hS (wanted_plain rfl) (fun w hm => ev_assign ht rfl rfl) ?_
    intro a ht
    refine wph_one (i := 8) (by kernel_rfl) (wph_step rfl ?_)
    replace hm : Ms _ _ _ _ (AllInts ([]) ([] : List (List Int)) :: _) w := hm.addφ (allInts_nil)
    refine wpl_buildSlice (vs := []) rfl rfl ht hm rfl und_33 zo_25 sz1_25 (by decide) rfl rfl rfl ?_
    intro A8502 a ht w hm
    have hS : Ms X (fps []) w0 [.blk b1 28 (Col.cells x)] [] w := (hm.pick [2] rfl (by decide)).pickφ [] rfl
    refine wpList_nil (qn ⟨hS, ?_⟩)
    refine wph_take (i := 11) rfl (by kernel_rfl) (by kernel_rfl) (by kernel_rfl) (fun _ _ _ h => h) rfl ht hS (wanted_plain rfl) (fun w hm => ev_assign ht rfl rfl) ?_
    intro a ht
    refine wph_done (by kernel_rfl) ?_
    replace hm := hm.pick (own' := [.vec A2503 c2504 2 1 m2505 (ints t2502), .vec A8502 0 25 1 0 ([]), .blk b1 28 (Col.cells x)]) [1, 0, 2] rfl (by decide)
    refine then_normal ?_
    refine wp_seq ?_
    refine wpr ?_
    refine wpl rfl rfl ht (ev_fieldAddr ht rfl rfl fo_28_0) ?_
    intro a ht
    refine wpl rfl rfl ht (ev_load ht rfl rfl sc_2 (hm.blk_cell 2 rfl rfl)) ?_
    intro a ht
    refine wpl rfl rfl ht (ev_convert ht rfl rfl und_2 und_53) ?_
    intro a ht
    refine wpl rfl rfl ht (ev_shl ht rfl rfl rfl (wrapU_nonneg _ _ rfl)) ?_
    intro a ht
    obtain ⟨u13003, eu13003, H⟩ := bind_get H
    refine wpl_make_ints rfl rfl ht hm rfl und_25 zo_2 sz1_2 by_2 rfl rfl (guardO_get eu13003) ?_
    intro A13002 m13004 c13005 a ht w hm
    refine wpl rfl rfl ht (ev_assign ht rfl rfl) ?_
    intro a ht
    refine wpList_nil ?_
    refine then_normal ?_
    refine wp_seq ?_
    refine wp_seq ?_
    refine wpr ?_
    refine wpl rfl rfl ht (ev_assign ht rfl rfl) ?_
    intro a ht
    refine wpList_nil ?_
    refine then_normal ?_
    refine wp_block ?_
    refine wpLoop (fun q a w => ∃ (ls0_1 : List Int) (xs0_2 : Int), spec_l04Matching.l0 q x t2502 ls0_1 xs0_2 = some r ∧ q ≤ k ∧ Tm 107 [(2, .pointer (some ⟨b1, 0, none⟩)), (4, .slice none 0 0), (5, .slice A2503 m2505 c2504), (6, .int .i64 (w64 ((shlI .i64 1 (wu64 x.p)) - 1))), (7, .slice A8502 0 0), (8, .slice A13002 m13004 c13005), (9, .int .i64 xs0_2)] a ∧ Ms X (fps []) w0 [.vec A13002 c13005 2 1 m13004 (ints ls0_1), .vec A2503 c2504 2 1 m2505 (ints t2502), .vec A8502 0 25 1 0 ([]), .blk b1 28 (Col.cells x)] [AllInts ([]) ([] : List (List Int))] w) (k0 := k) ⟨(List.replicate (shlI .i64 1 (wu64 x.p)).toNat (0 : Int)), 0, H, Nat.le_refl _, ht.sub ⟨rfl, rfl, rfl, rfl, rfl, rfl, rfl, trivial⟩, (hm.pick [0, 1, 2, 3] rfl (by decide)).pickφ [0] rfl⟩ ?_
    clear H ht hm
    intro q13006 a w hJ
    obtain ⟨ls0_1, xs0_2, H, hqq13006, ht, hm⟩ := hJ
    cases q13006 with
    | zero => cases H
    | succ q13006 =>
    rw [spec_l04Matching.l0] at H
    refine wp_seq ?_
    refine wp_seq ?_
    refine wpr ?_
    refine wpl rfl rfl ht (ev_move ht rfl rfl) ?_
    intro a ht
    refine wpl rfl rfl ht (ev_move ht rfl rfl) ?_
    intro a ht
    refine wpl rfl rfl ht (ev_len_of ht rfl rfl und_25 (hm.vec_row 0 rfl)) ?_
    intro a ht
    refine wpl rfl rfl ht (ev_cmp ht rfl rfl rfl rfl) ?_
    intro a ht
    refine wpList_nil ?_
    refine then_normal ?_
    by_cases h13007 : xs0_2 < (ls0_1.length : Int)
    · replace H := ite_yes h13007 H
      refine wpc_yes ht rfl (decide_eq_true h13007) ?_
      refine wp_skip ?_
      refine then_normal ?_
      refine wp_seq ?_
      refine wp_block ?_
      refine wpr ?_
      refine wpl rfl rfl ht (ev_move ht rfl rfl) ?_
      intro a ht
      refine wpl rfl rfl ht (ev_move ht rfl rfl) ?_
      intro a ht
      obtain ⟨t13008, et13008, H⟩ := bind_get H
      refine wpl rfl rfl ht (ev_index_ints ht rfl rfl rfl so_25 (hm.vec_row 0 rfl) et13008) ?_
      intro a ht
      refine wpl_store_int 0 rfl rfl ht hm rfl rfl rfl sz1_2 rfl et13008 ?_
      intro a ht w hm
      refine wpList_nil ?_
      refine blk_normal ?_
      refine then_normal ?_
      refine wpr ?_
      refine wpl rfl rfl ht (ev_move ht rfl rfl) ?_
      intro a ht
      refine wpl rfl rfl ht (ev_arith ht rfl rfl rfl rfl) ?_
      intro a ht
      refine wpl rfl rfl ht (ev_assign ht rfl rfl) ?_
      intro a ht
      refine wpList_nil ?_
      exact then_normal ⟨q13006, by omega, (ls0_1.set xs0_2.toNat (-1)), (w64 (xs0_2 + 1)), H, by omega, ht.sub ⟨rfl, rfl, rfl, rfl, rfl, rfl, rfl, trivial⟩, (hm.pick [0, 1, 2, 3] rfl (by decide)).pickφ [0] rfl⟩
    · replace H := ite_no h13007 H
      refine wpc_no ht rfl (decide_eq_false h13007) ?_
      refine wp_exit ?_
      refine then_exit ?_
      refine then_exit ?_
      refine blk_hit ?_
      refine then_normal ?_
      refine wp_seq ?_
      refine wp_seq ?_
      refine wpr ?_
      refine wpl rfl rfl ht (ev_assign ht rfl rfl) ?_
      intro a ht
      refine wpList_nil ?_
      refine then_normal ?_
      refine wp_block ?_
      refine wpLoop (fun q a w => ∃ (ls1_1 : List Int) (ls1_5 : List (List Int)) (xs1_7 : Int) (xs1_8 : Int) (As1_2 : Option Addr) (cs1_3 : Nat) (ms1_4 : Nat) (vss1_6 : List Value), spec_l04Matching.l1 q x t2502 ls1_1 ls1_5 xs1_7 xs1_8 = some r ∧ q ≤ q13006 ∧ Tm 107 [(2, .pointer (some ⟨b1, 0, none⟩)), (4, .slice none 0 0), (5, .slice A2503 m2505 c2504), (7, .slice As1_2 ms1_4 cs1_3), (8, .slice A13002 m13004 c13005), (6, .int .i64 xs1_7), (10, .int .i64 xs1_8)] a ∧ Ms X (fps []) w0 [.vec A13002 c13005 2 1 m13004 (ints ls1_1), .vec A2503 c2504 2 1 m2505 (ints t2502), .vec As1_2 cs1_3 25 1 ms1_4 vss1_6, .blk b1 28 (Col.cells x)] [AllInts vss1_6 ls1_5] w) (k0 := q13006) ⟨ls0_1, ([] : List (List Int)), (w64 ((shlI .i64 1 (wu64 x.p)) - 1)), 0, A8502, 0, 0, ([]), H, Nat.le_refl _, ht.sub ⟨rfl, rfl, rfl, rfl, rfl, rfl, rfl, trivial⟩, (hm.pick [0, 1, 2, 3] rfl (by decide)).pickφ [0] rfl⟩ ?_
      clear H ht hm
      intro q13009 a w hJ
      obtain ⟨ls1_1, ls1_5, xs1_7, xs1_8, As1_2, cs1_3, ms1_4, vss1_6, H, hqq13009, ht, hm⟩ := hJ
      cases q13009 with
      | zero => cases H
      | succ q13009 =>
      rw [spec_l04Matching.l1] at H
      refine wp_seq ?_
      refine wp_seq ?_
      refine wpr ?_
      refine wpl rfl rfl ht (ev_move ht rfl rfl) ?_
      intro a ht
      refine wpl rfl rfl ht (ev_fieldAddr ht rfl rfl fo_28_0) ?_
      intro a ht
      refine wpl rfl rfl ht (ev_load ht rfl rfl sc_2 (hm.blk_cell 3 rfl rfl)) ?_
      intro a ht
      refine wpl rfl rfl ht (ev_cmp ht rfl rfl rfl rfl) ?_
      intro a ht
      refine wpList_nil ?_
      refine then_normal ?_
      by_cases h13010 : xs1_8 < x.p
      · replace H := ite_yes h13010 H
        refine wpc_yes ht rfl (decide_eq_true h13010) ?_
        refine wp_skip ?_
        refine then_normal ?_
        refine wp_seq ?_
        refine wp_block ?_
        refine wp_seq ?_
        refine wpr ?_
        refine wpl rfl rfl ht (ev_move ht rfl rfl) ?_
        intro a ht
        refine wpl rfl rfl ht (ev_convert ht rfl rfl und_2 und_53) ?_
        intro a ht
        refine wpl rfl rfl ht (ev_shl ht rfl rfl rfl (wrapU_nonneg _ _ rfl)) ?_
        intro a ht
        refine wpl rfl rfl ht (ev_assign ht rfl rfl) ?_
        intro a ht
        refine wpList_nil ?_
        refine then_normal ?_
        refine wp_seq ?_
        refine wp_seq ?_
        refine wpr ?_
        refine wpl rfl rfl ht (ev_move ht rfl rfl) ?_
        intro a ht
        refine wpl rfl rfl ht (ev_move ht rfl rfl) ?_
        intro a ht
        refine wpl rfl rfl ht (ev_bit ht rfl rfl rfl rfl) ?_
        intro a ht
        refine wpl rfl rfl ht (ev_cmp ht rfl rfl rfl rfl) ?_
        intro a ht
        refine wpList_nil ?_
        refine then_normal ?_
        by_cases h13011 : (bitop .and .i64 xs1_7 (shlI .i64 1 (wu64 xs1_8))) = 0
        · replace H := ite_yes h13011 H
          refine wpc_yes ht rfl (decide_eq_true h13011) ?_
          refine wp_exit ?_
          refine then_exit ?_
          refine blk_hit ?_
          refine then_normal ?_
          refine wpr ?_
          refine wpl rfl rfl ht (ev_move ht rfl rfl) ?_
          intro a ht
          refine wpl rfl rfl ht (ev_arith ht rfl rfl rfl rfl) ?_
          intro a ht
          refine wpl rfl rfl ht (ev_assign ht rfl rfl) ?_
          intro a ht
          refine wpList_nil ?_
          exact then_normal ⟨q13009, by omega, ls1_1, ls1_5, xs1_7, (w64 (xs1_8 + 1)), As1_2, cs1_3, ms1_4, vss1_6, H, by omega, ht.sub ⟨rfl, rfl, rfl, rfl, rfl, rfl, rfl, trivial⟩, (hm.pick [0, 1, 2, 3] rfl (by decide)).pickφ [0] rfl⟩
        · replace H := ite_no h13011 H
          refine wpc_no ht rfl (decide_eq_false h13011) ?_
          refine wp_skip ?_
          refine then_normal ?_
          refine wp_seq ?_
          refine wpr ?_
          refine wpl rfl rfl ht (ev_move ht rfl rfl) ?_
          intro a ht
          refine wpl rfl rfl ht (ev_move ht rfl rfl) ?_
          intro a ht
          refine wpl rfl rfl ht (ev_bit ht rfl rfl rfl rfl) ?_
          intro a ht
          refine wpl rfl rfl ht (ev_assign ht rfl rfl) ?_
          intro a ht
          refine wpList_nil ?_
          refine then_normal ?_
          refine wp_seq ?_
          refine wp_seq ?_
          refine wpr ?_
          refine wpl rfl rfl ht (ev_move ht rfl rfl) ?_
          intro a ht
          refine wpl rfl rfl ht (ev_arith ht rfl rfl rfl rfl) ?_
          intro a ht
          refine wpl rfl rfl ht (ev_assign ht rfl rfl) ?_
          intro a ht
          refine wpList_nil ?_
          refine then_normal ?_
          refine wp_block ?_
          refine wpLoop (fun q a w => ∃ (ls2_1 : List Int) (xs2_2 : Int), spec_l04Matching.l2 q x t2502 ls1_5 xs1_7 xs1_8 ls2_1 xs2_2 = some r ∧ q ≤ q13009 ∧ Tm 107 [(2, .pointer (some ⟨b1, 0, none⟩)), (4, .slice none 0 0), (5, .slice A2503 m2505 c2504), (6, .int .i64 xs1_7), (7, .slice As1_2 ms1_4 cs1_3), (8, .slice A13002 m13004 c13005), (10, .int .i64 xs1_8), (11, .int .i64 (shlI .i64 1 (wu64 xs1_8))), (12, .int .i64 (bitop .xor .i64 xs1_7 (shlI .i64 1 (wu64 xs1_8)))), (37, .int .i64 xs1_8), (38, .pointer (some ⟨b1, 0 + 0, none⟩)), (39, .int .i64 x.p), (40, .bool (decide (xs1_8 < x.p))), (43, .int .i64 xs1_8), (44, .int .u64 (wu64 xs1_8)), (45, .int .i64 (shlI .i64 1 (wu64 xs1_8))), (46, .int .i64 xs1_7), (47, .int .i64 (shlI .i64 1 (wu64 xs1_8))), (48, .int .i64 (bitop .and .i64 xs1_7 (shlI .i64 1 (wu64 xs1_8)))), (49, .bool (decide ((bitop .and .i64 xs1_7 (shlI .i64 1 (wu64 xs1_8))) = 0))), (50, .int .i64 xs1_7), (51, .int .i64 (shlI .i64 1 (wu64 xs1_8))), (52, .int .i64 (bitop .xor .i64 xs1_7 (shlI .i64 1 (wu64 xs1_8)))), (53, .int .i64 xs1_8), (54, .int .i64 (w64 (xs1_8 + 1))), (13, .int .i64 xs2_2)] a ∧ Ms X (fps []) w0 [.vec A13002 c13005 2 1 m13004 (ints ls2_1), .vec A2503 c2504 2 1 m2505 (ints t2502), .vec As1_2 cs1_3 25 1 ms1_4 vss1_6, .blk b1 28 (Col.cells x)] [AllInts vss1_6 ls1_5] w) (k0 := q13009) ⟨ls1_1, (w64 (xs1_8 + 1)), H, Nat.le_refl _, ht.sub ⟨rfl, rfl, rfl, rfl, rfl, rfl, rfl, rfl, rfl, rfl, rfl, rfl, rfl, rfl, rfl, rfl, rfl, rfl, rfl, rfl, rfl, rfl, rfl, rfl, rfl, rfl, trivial⟩, (hm.pick [0, 1, 2, 3] rfl (by decide)).pickφ [0] rfl⟩ ?_
          clear H ht hm
          intro q13012 a w hJ
          obtain ⟨ls2_1, xs2_2, H, hqq13012, ht, hm⟩ := hJ
          cases q13012 with
          | zero => cases H
          | succ q13012 =>
          rw [spec_l04Matching.l2] at H
          refine wp_seq ?_
          refine wp_seq ?_
          refine wpr ?_
          refine wpl rfl rfl ht (ev_move ht rfl rfl) ?_
          intro a ht
          refine wpl rfl rfl ht (ev_fieldAddr ht rfl rfl fo_28_0) ?_
          intro a ht
          refine wpl rfl rfl ht (ev_load ht rfl rfl sc_2 (hm.blk_cell 3 rfl rfl)) ?_
          intro a ht
          refine wpl rfl rfl ht (ev_cmp ht rfl rfl rfl rfl) ?_
          intro a ht
          refine wpList_nil ?_
          refine then_normal ?_
          by_cases h13013 : xs2_2 < x.p
          · replace H := ite_yes h13013 H
            refine wpc_yes ht rfl (decide_eq_true h13013) ?_
            refine wp_skip ?_
            refine then_normal ?_
            refine wp_seq ?_
            refine wp_block ?_
            refine wp_seq ?_
            refine wpr ?_
            refine wpl rfl rfl ht (ev_move ht rfl rfl) ?_
            intro a ht
            refine wpl rfl rfl ht (ev_move ht rfl rfl) ?_
            intro a ht
            refine wpl rfl rfl ht (ev_convert ht rfl rfl und_2 und_53) ?_
            intro a ht
            refine wpl rfl rfl ht (ev_shr ht rfl rfl rfl (wrapU_nonneg _ _ rfl)) ?_
            intro a ht
            refine wpl rfl rfl ht (ev_bit ht rfl rfl rfl rfl) ?_
            intro a ht
            refine wpl rfl rfl ht (ev_cmp ht rfl rfl rfl rfl) ?_
            intro a ht
            refine wpl rfl rfl ht (ev_move ht rfl rfl) ?_
            intro a ht
            by_cases h13014 : (bitop .and .i64 (shrI .i64 (bitop .xor .i64 xs1_7 (shlI .i64 1 (wu64 xs1_8))) (wu64 xs2_2)) 1) = 1
            · replace H := ite_yes h13014 H
              refine wpl_yes rfl ht rfl ((decide_eq_true h13014)) ?_
              refine wpl rfl rfl ht (ev_move ht rfl rfl) ?_
              intro a ht
              refine wpl_yes rfl ht rfl ((decide_eq_true h13014)) ?_
              refine wpl rfl rfl ht (ev_move ht rfl rfl) ?_
              intro a ht
              refine wpl_yes rfl ht rfl ((decide_eq_true h13014)) ?_
              obtain ⟨t13015, et13015, H⟩ := bind_get H
              refine wpl rfl rfl ht (ev_index_ints ht rfl rfl rfl so_25 (hm.vec_row 1 rfl) et13015) ?_
              intro a ht
              refine wpl_yes rfl ht rfl ((decide_eq_true h13014)) ?_
              refine wpl rfl rfl ht (ev_load ht rfl rfl sc_2 (RowAt.cell (hm.vec_row 1 rfl) (ints_get et13015) rfl)) ?_
              intro a ht
              refine wpl_yes rfl ht rfl ((decide_eq_true h13014)) ?_
              refine wpl rfl rfl ht (ev_move ht rfl rfl) ?_
              intro a ht
              refine wpl_yes rfl ht rfl ((decide_eq_true h13014)) ?_
              refine wpl rfl rfl ht (ev_convert ht rfl rfl und_2 und_53) ?_
              intro a ht
              refine wpl_yes rfl ht rfl ((decide_eq_true h13014)) ?_
              refine wpl rfl rfl ht (ev_shr ht rfl rfl rfl (wrapU_nonneg _ _ rfl)) ?_
              intro a ht
              refine wpl_yes rfl ht rfl ((decide_eq_true h13014)) ?_
              refine wpl rfl rfl ht (ev_bit ht rfl rfl rfl rfl) ?_
              intro a ht
              refine wpl_yes rfl ht rfl ((decide_eq_true h13014)) ?_
              refine wpl rfl rfl ht (ev_cmp ht rfl rfl rfl rfl) ?_
              intro a ht
              refine wpl rfl rfl ht (ev_pick_yes ht rfl rfl (decide_eq_true h13014) rfl) ?_
              intro a ht
              refine wpl rfl rfl ht (ev_move ht rfl rfl) ?_
              intro a ht
              by_cases h13016 : (bitop .and .i64 (shrI .i64 t13015 (wu64 xs2_2)) 1) = 1
              · replace H := ite_yes h13016 H
                refine wpl_yes rfl ht rfl ((decide_eq_true h13016)) ?_
                refine wpl rfl rfl ht (ev_move ht rfl rfl) ?_
                intro a ht
                refine wpl_yes rfl ht rfl ((decide_eq_true h13016)) ?_
                refine wpl rfl rfl ht (ev_move ht rfl rfl) ?_
                intro a ht
                refine wpl_yes rfl ht rfl ((decide_eq_true h13016)) ?_
                refine wpl rfl rfl ht (ev_move ht rfl rfl) ?_
                intro a ht
                refine wpl_yes rfl ht rfl ((decide_eq_true h13016)) ?_
                refine wpl rfl rfl ht (ev_move ht rfl rfl) ?_
                intro a ht
                refine wpl_yes rfl ht rfl ((decide_eq_true h13016)) ?_
                refine wpl rfl rfl ht (ev_convert ht rfl rfl und_2 und_53) ?_
                intro a ht
                refine wpl_yes rfl ht rfl ((decide_eq_true h13016)) ?_
                refine wpl rfl rfl ht (ev_shl ht rfl rfl rfl (wrapU_nonneg _ _ rfl)) ?_
                intro a ht
                refine wpl_yes rfl ht rfl ((decide_eq_true h13016)) ?_
                refine wpl rfl rfl ht (ev_bit ht rfl rfl rfl rfl) ?_
                intro a ht
                refine wpl_yes rfl ht rfl ((decide_eq_true h13016)) ?_
                obtain ⟨t13017, et13017, H⟩ := bind_get H
                have hcall := spec_l04Match.calls q13012 _ _ A2503 c2504 m2505 A13002 c13005 m13004 t2502 ls2_1 (bitop .xor .i64 (bitop .xor .i64 xs1_7 (shlI .i64 1 (wu64 xs1_8))) (shlI .i64 1 (wu64 xs2_2))) _ ((fun (hq : Ms _ _ _ ([.vec A13002 c13005 2 1 m13004 (ints ls2_1)] ++ [.vec A2503 c2504 2 1 m2505 (ints t2502), .vec As1_2 cs1_3 25 1 ms1_4 vss1_6, .blk b1 28 (Col.cells x)]) _ _) => hq.lend (φp := [IntsAt A2503 c2504 m2505 t2502]) (allRO_cons (hq.lendVec 0 rfl) (allRO_nil))) (hm.pick (own' := [.vec A13002 c13005 2 1 m13004 (ints ls2_1)] ++ [.vec A2503 c2504 2 1 m2505 (ints t2502), .vec As1_2 cs1_3 25 1 ms1_4 vss1_6, .blk b1 28 (Col.cells x)]) [0, 1, 2, 3] rfl (by decide))) et13017
                refine wpl_call _ rfl rfl ht rfl rfl rfl rfl can_41 hcall ?_
                clear hcall
                rintro _ w ⟨rfl, hpost⟩ a ht
                replace hm := (hm.pick (own' := [.vec A13002 c13005 2 1 m13004 (ints ls2_1)] ++ [.vec A2503 c2504 2 1 m2505 (ints t2502), .vec As1_2 cs1_3 25 1 ms1_4 vss1_6, .blk b1 28 (Col.cells x)]) [0, 1, 2, 3] rfl (by decide)).backL hpost
                clear hpost
                refine wpl_yes rfl ht rfl ((decide_eq_true h13016)) ?_
                refine wpl rfl rfl ht (ev_arith ht rfl rfl rfl rfl) ?_
                intro a ht
                refine wpl_yes rfl ht rfl ((decide_eq_true h13016)) ?_
                refine wpl rfl rfl ht (ev_move ht rfl rfl) ?_
                intro a ht
                refine wpl_yes rfl ht rfl ((decide_eq_true h13016)) ?_
                refine wpl rfl rfl ht (ev_move ht rfl rfl) ?_
                intro a ht
                refine wpl_yes rfl ht rfl ((decide_eq_true h13016)) ?_
                refine wpl rfl rfl ht (ev_move ht rfl rfl) ?_
                intro a ht
                refine wpl_yes rfl ht rfl ((decide_eq_true h13016)) ?_
                obtain ⟨t13018, et13018, H⟩ := bind_get H
                have hcall := spec_l04Match.calls q13012 _ _ A2503 c2504 m2505 A13002 c13005 m13004 t2502 t13017.2 xs1_7 _ ((fun (hq : Ms _ _ _ ([.vec A13002 c13005 2 1 m13004 (ints t13017.2)] ++ [.vec A2503 c2504 2 1 m2505 (ints t2502), .vec As1_2 cs1_3 25 1 ms1_4 vss1_6, .blk b1 28 (Col.cells x)]) _ _) => hq.lend (φp := [IntsAt A2503 c2504 m2505 t2502]) (allRO_cons (hq.lendVec 0 rfl) (allRO_nil))) (hm.pick (own' := [.vec A13002 c13005 2 1 m13004 (ints t13017.2)] ++ [.vec A2503 c2504 2 1 m2505 (ints t2502), .vec As1_2 cs1_3 25 1 ms1_4 vss1_6, .blk b1 28 (Col.cells x)]) [0, 1, 2, 3] rfl (by decide))) et13018
                refine wpl_call _ rfl rfl ht rfl rfl rfl rfl can_41 hcall ?_
                clear hcall
                rintro _ w ⟨rfl, hpost⟩ a ht
                replace hm := (hm.pick (own' := [.vec A13002 c13005 2 1 m13004 (ints t13017.2)] ++ [.vec A2503 c2504 2 1 m2505 (ints t2502), .vec As1_2 cs1_3 25 1 ms1_4 vss1_6, .blk b1 28 (Col.cells x)]) [0, 1, 2, 3] rfl (by decide)).backL hpost
                clear hpost
                refine wpl_yes rfl ht rfl ((decide_eq_true h13016)) ?_
                refine wpl rfl rfl ht (ev_cmp ht rfl rfl rfl rfl) ?_
                intro a ht
                refine wpl rfl rfl ht (ev_pick_yes ht rfl rfl (decide_eq_true h13016) rfl) ?_
                intro a ht
                refine wpList_nil ?_
                refine then_normal ?_
                by_cases h13019 : (w64 (1 + t13017.1)) = t13018.1
                · replace H := ite_yes h13019 H
                  refine wpc_yes ht rfl (decide_eq_true h13019) ?_
                  refine wp_seq ?_
                  refine wpr ?_
                  refine wpl rfl rfl ht (ev_move ht rfl rfl) ?_
                  intro a ht
                  refine wpl rfl rfl ht (ev_move ht rfl rfl) ?_
                  intro a ht
                  refine wpl rfl rfl ht (ev_move ht rfl rfl) ?_
                  intro a ht
                  refine wpl_build_ints (l := [xs1_8, xs2_2]) rfl rfl ht hm rfl und_25 zo_2 sz1_2 (by decide) rfl rfl rfl ?_
                  intro A13020 a ht w hm
                  replace hm : Ms _ _ _ _ (IntsAt A13020 2 2 ([xs1_8, xs2_2]) :: _) w := hm.shutVec 0 rfl
                  replace hm : Ms _ _ _ _ (AllInts ([.slice A13020 2 2]) ([[xs1_8, xs2_2]]) :: _) w := hm.addφ (allInts_cons (hm.ro 0 rfl) (allInts_nil))
                  refine wpl_buildSlice (vs := [.slice A13020 2 2]) rfl rfl ht hm rfl und_33 zo_25 sz1_25 (by decide) rfl rfl rfl ?_
                  intro A13021 a ht w hm
                  obtain ⟨l13025, el13025, H⟩ := bind_get H
                  replace hm : Ms _ _ _ _ (AllInts (vss1_6 ++ ([.slice A13020 2 2])) l13025 :: _) w := hm.addφ (allInts_append el13025 (hm.ro 2 rfl) (hm.ro 0 rfl))
                  refine wpl_concat_rows (r := l13025) 3 0 3 1 rfl rfl ht hm rfl ap_33 rfl rfl rfl rfl rfl rfl el13025 ?_
                  intro A13022 c13023 m13024 a ht w hm
                  refine wpl rfl rfl ht (ev_assign ht rfl rfl) ?_
                  intro a ht
                  refine wpList_nil ?_
                  refine then_normal ?_
                  refine wp_seq ?_
                  refine wpr ?_
                  refine wpl rfl rfl ht (ev_move ht rfl rfl) ?_
                  intro a ht
                  refine wpl rfl rfl ht (ev_move ht rfl rfl) ?_
                  intro a ht
                  refine wpl rfl rfl ht (ev_convert ht rfl rfl und_2 und_53) ?_
                  intro a ht
                  refine wpl rfl rfl ht (ev_shl ht rfl rfl rfl (wrapU_nonneg _ _ rfl)) ?_
                  intro a ht
                  refine wpl rfl rfl ht (ev_bit ht rfl rfl rfl rfl) ?_
                  intro a ht
                  refine wpl rfl rfl ht (ev_assign ht rfl rfl) ?_
                  intro a ht
                  refine wpList_nil ?_
                  refine then_normal ?_
                  refine wp_exit ?_
                  refine blk_miss (by decide) ?_
                  refine then_exit ?_
                  refine then_exit ?_
                  refine blk_hit ?_
                  refine then_normal ?_
                  refine wpr ?_
                  refine wpl rfl rfl ht (ev_move ht rfl rfl) ?_
                  intro a ht
                  refine wpl rfl rfl ht (ev_assign ht rfl rfl) ?_
                  intro a ht
                  refine wpList_nil ?_
                  refine blk_normal ?_
                  refine then_normal ?_
                  refine wpr ?_
                  refine wpl rfl rfl ht (ev_move ht rfl rfl) ?_
                  intro a ht
                  refine wpl rfl rfl ht (ev_arith ht rfl rfl rfl rfl) ?_
                  intro a ht
                  refine wpl rfl rfl ht (ev_assign ht rfl rfl) ?_
                  intro a ht
                  refine wpList_nil ?_
                  exact then_normal ⟨q13012, by omega, t13018.2, l13025, (bitop .xor .i64 (bitop .xor .i64 xs1_7 (shlI .i64 1 (wu64 xs1_8))) (shlI .i64 1 (wu64 xs2_2))), (w64 (xs1_8 + 1)), A13022, c13023, m13024, (vss1_6 ++ ([.slice A13020 2 2])), H, by omega, ht.sub ⟨rfl, rfl, rfl, rfl, rfl, rfl, rfl, trivial⟩, (hm.pick [1, 2, 3, 4] rfl (by decide)).pickφ [0] rfl⟩
                · replace H := ite_no h13019 H
                  refine wpc_no ht rfl (decide_eq_false h13019) ?_
                  refine wp_skip ?_
                  refine blk_normal ?_
                  refine then_normal ?_
                  refine wpr ?_
                  refine wpl rfl rfl ht (ev_move ht rfl rfl) ?_
                  intro a ht
                  refine wpl rfl rfl ht (ev_arith ht rfl rfl rfl rfl) ?_
                  intro a ht
                  refine wpl rfl rfl ht (ev_assign ht rfl rfl) ?_
                  intro a ht
                  refine wpList_nil ?_
                  exact then_normal ⟨q13012, by omega, t13018.2, (w64 (xs2_2 + 1)), H, by omega, ht.sub ⟨rfl, rfl, rfl, rfl, rfl, rfl, rfl, rfl, rfl, rfl, rfl, rfl, rfl, rfl, rfl, rfl, rfl, rfl, rfl, rfl, rfl, rfl, rfl, rfl, rfl, rfl, trivial⟩, (hm.pick [0, 1, 2, 3] rfl (by decide)).pickφ [0] rfl⟩
              · replace H := ite_no h13016 H
                refine wpl_no rfl rfl ht rfl (by rw [(decide_eq_false h13016)]; decide) ?_
                intro a ht
                refine wpl_no rfl rfl ht rfl (by rw [(decide_eq_false h13016)]; decide) ?_
                intro a ht
                refine wpl_no rfl rfl ht rfl (by rw [(decide_eq_false h13016)]; decide) ?_
                intro a ht
                refine wpl_no rfl rfl ht rfl (by rw [(decide_eq_false h13016)]; decide) ?_
                intro a ht
                refine wpl_no rfl rfl ht rfl (by rw [(decide_eq_false h13016)]; decide) ?_
                intro a ht
                refine wpl_no rfl rfl ht rfl (by rw [(decide_eq_false h13016)]; decide) ?_
                intro a ht
                refine wpl_no rfl rfl ht rfl (by rw [(decide_eq_false h13016)]; decide) ?_
                intro a ht
                refine wpl_no rfl rfl ht rfl (by rw [(decide_eq_false h13016)]; decide) ?_
                intro a ht
                refine wpl_no rfl rfl ht rfl (by rw [(decide_eq_false h13016)]; decide) ?_
                intro a ht
                refine wpl_no rfl rfl ht rfl (by rw [(decide_eq_false h13016)]; decide) ?_
                intro a ht
                refine wpl_no rfl rfl ht rfl (by rw [(decide_eq_false h13016)]; decide) ?_
                intro a ht
                refine wpl_no rfl rfl ht rfl (by rw [(decide_eq_false h13016)]; decide) ?_
                intro a ht
                refine wpl_no rfl rfl ht rfl (by rw [(decide_eq_false h13016)]; decide) ?_
                intro a ht
                refine wpl_no rfl rfl ht rfl (by rw [(decide_eq_false h13016)]; decide) ?_
                intro a ht
                refine wpl rfl rfl ht (ev_pick_no ht rfl rfl (decide_eq_false h13016) rfl) ?_
                intro a ht
                refine wpList_nil ?_
                refine then_normal ?_
                refine wpc_no ht rfl rfl ?_
                refine wp_skip ?_
                refine blk_normal ?_
                refine then_normal ?_
                refine wpr ?_
                refine wpl rfl rfl ht (ev_move ht rfl rfl) ?_
                intro a ht
                refine wpl rfl rfl ht (ev_arith ht rfl rfl rfl rfl) ?_
                intro a ht
                refine wpl rfl rfl ht (ev_assign ht rfl rfl) ?_
                intro a ht
                refine wpList_nil ?_
                exact then_normal ⟨q13012, by omega, ls2_1, (w64 (xs2_2 + 1)), H, by omega, ht.sub ⟨rfl, rfl, rfl, rfl, rfl, rfl, rfl, rfl, rfl, rfl, rfl, rfl, rfl, rfl, rfl, rfl, rfl, rfl, rfl, rfl, rfl, rfl, rfl, rfl, rfl, rfl, trivial⟩, (hm.pick [0, 1, 2, 3] rfl (by decide)).pickφ [0] rfl⟩
            · replace H := ite_no h13014 H
              refine wpl_no rfl rfl ht rfl (by rw [(decide_eq_false h13014)]; decide) ?_
              intro a ht
              refine wpl_no rfl rfl ht rfl (by rw [(decide_eq_false h13014)]; decide) ?_
              intro a ht
              refine wpl_no rfl rfl ht rfl (by rw [(decide_eq_false h13014)]; decide) ?_
              intro a ht
              refine wpl_no rfl rfl ht rfl (by rw [(decide_eq_false h13014)]; decide) ?_
              intro a ht
              refine wpl_no rfl rfl ht rfl (by rw [(decide_eq_false h13014)]; decide) ?_
              intro a ht
              refine wpl_no rfl rfl ht rfl (by rw [(decide_eq_false h13014)]; decide) ?_
              intro a ht
              refine wpl_no rfl rfl ht rfl (by rw [(decide_eq_false h13014)]; decide) ?_
              intro a ht
              refine wpl_no rfl rfl ht rfl (by rw [(decide_eq_false h13014)]; decide) ?_
              intro a ht
              refine wpl_no rfl rfl ht rfl (by rw [(decide_eq_false h13014)]; decide) ?_
              intro a ht
              refine wpl rfl rfl ht (ev_pick_no ht rfl rfl (decide_eq_false h13014) rfl) ?_
              intro a ht
              refine wpl rfl rfl ht (ev_move ht rfl rfl) ?_
              intro a ht
              refine wpl_no rfl rfl ht rfl (by decide) ?_
              intro a ht
              refine wpl_no rfl rfl ht rfl (by decide) ?_
              intro a ht
              refine wpl_no rfl rfl ht rfl (by decide) ?_
              intro a ht
              refine wpl_no rfl rfl ht rfl (by decide) ?_
              intro a ht
              refine wpl_no rfl rfl ht rfl (by decide) ?_
              intro a ht
              refine wpl_no rfl rfl ht rfl (by decide) ?_
              intro a ht
              refine wpl_no rfl rfl ht rfl (by decide) ?_
              intro a ht
              refine wpl_no rfl rfl ht rfl (by decide) ?_
              intro a ht
              refine wpl_no rfl rfl ht rfl (by decide) ?_
              intro a ht
              refine wpl_no rfl rfl ht rfl (by decide) ?_
              intro a ht
              refine wpl_no rfl rfl ht rfl (by decide) ?_
              intro a ht
              refine wpl_no rfl rfl ht rfl (by decide) ?_
              intro a ht
              refine wpl_no rfl rfl ht rfl (by decide) ?_
              intro a ht
              refine wpl_no rfl rfl ht rfl (by decide) ?_
              intro a ht
              refine wpl rfl rfl ht (ev_pick_no ht rfl rfl rfl rfl) ?_
              intro a ht
              refine wpList_nil ?_
              refine then_normal ?_
              refine wpc_no ht rfl rfl ?_
              refine wp_skip ?_
              refine blk_normal ?_
              refine then_normal ?_
              refine wpr ?_
              refine wpl rfl rfl ht (ev_move ht rfl rfl) ?_
              intro a ht
              refine wpl rfl rfl ht (ev_arith ht rfl rfl rfl rfl) ?_
              intro a ht
              refine wpl rfl rfl ht (ev_assign ht rfl rfl) ?_
              intro a ht
              refine wpList_nil ?_
              exact then_normal ⟨q13012, by omega, ls2_1, (w64 (xs2_2 + 1)), H, by omega, ht.sub ⟨rfl, rfl, rfl, rfl, rfl, rfl, rfl, rfl, rfl, rfl, rfl, rfl, rfl, rfl, rfl, rfl, rfl, rfl, rfl, rfl, rfl, rfl, rfl, rfl, rfl, rfl, trivial⟩, (hm.pick [0, 1, 2, 3] rfl (by decide)).pickφ [0] rfl⟩
          · replace H := ite_no h13013 H
            refine wpc_no ht rfl (decide_eq_false h13013) ?_
            refine wp_exit ?_
            refine then_exit ?_
            refine then_exit ?_
            refine blk_hit ?_
            refine then_normal ?_
            refine wpr ?_
            refine wpl rfl rfl ht (ev_move ht rfl rfl) ?_
            intro a ht
            refine wpl rfl rfl ht (ev_assign ht rfl rfl) ?_
            intro a ht
            refine wpList_nil ?_
            refine blk_normal ?_
            refine then_normal ?_
            refine wpr ?_
            refine wpl rfl rfl ht (ev_move ht rfl rfl) ?_
            intro a ht
            refine wpl rfl rfl ht (ev_arith ht rfl rfl rfl rfl) ?_
            intro a ht
            refine wpl rfl rfl ht (ev_assign ht rfl rfl) ?_
            intro a ht
            refine wpList_nil ?_
            exact then_normal ⟨q13012, by omega, ls2_1, ls1_5, (bitop .xor .i64 xs1_7 (shlI .i64 1 (wu64 xs1_8))), (w64 (xs1_8 + 1)), As1_2, cs1_3, ms1_4, vss1_6, H, by omega, ht.sub ⟨rfl, rfl, rfl, rfl, rfl, rfl, rfl, trivial⟩, (hm.pick [0, 1, 2, 3] rfl (by decide)).pickφ [0] rfl⟩
      · replace H := ite_no h13010 H
        refine wpc_no ht rfl (decide_eq_false h13010) ?_
        refine wp_exit ?_
        refine then_exit ?_
        refine then_exit ?_
        refine blk_hit ?_
        refine then_normal ?_
        refine wp_seq ?_
        refine wpr ?_
        refine wpl rfl rfl ht (ev_move ht rfl rfl) ?_
        intro a ht
        refine wpl rfl rfl ht (ev_assign ht rfl rfl) ?_
        intro a ht
        refine wpList_nil ?_
        refine then_normal ?_
        refine wp_ret ?_
        have hres := ht.res (P := Try.prog) (w := w) (rs := [.tmp 4]) (vs := [.slice As1_2 ms1_4 cs1_3]) (.tmp rfl .nil)
        obtain rfl := Option.some.inj H
        exact leave ht rfl hres ⟨As1_2, cs1_3, ms1_4, vss1_6, rfl, ((hm.pick [2] rfl (by decide)).pickφ [0] rfl).post fun _ h => h⟩
  · refine wph_step rfl ?_
    replace hm : Ms _ _ _ _ (AllInts ([]) ([] : List (List Int)) :: _) w := hm.addφ (allInts_nil)
    refine wpl_buildSlice (vs := []) rfl rfl ht hm rfl und_33 zo_25 sz1_25 (by decide) rfl rfl rfl ?_
    intro A8502 a ht w hm
    have hS : Ms X (fps []) w0 [.blk b1 28 (Col.cells x)] [] w := (hm.pick [1] rfl (by decide)).pickφ [] rfl
    refine wpList_nil (qn ⟨hS, ?_⟩)
    refine wph_one (i := 2) (by kernel_rfl) (wph_step rfl ?_)
    obtain ⟨t2502, et2502, H⟩ := bind_get H
    have hcall := spec_l02Rows.calls k _ _ x c _ ((fun (hq : Ms _ _ _ ([] ++ [.vec A8502 0 25 1 0 ([]), .blk b1 28 (Col.cells x)]) _ _) => hq.lend (φp := []) (allRO_nil)) (hm.pick (own' := [] ++ [.vec A8502 0 25 1 0 ([]), .blk b1 28 (Col.cells x)]) [0, 1] rfl (by decide))) et2502
    refine wpl_call _ rfl rfl ht rfl rfl rfl rfl can_36 hcall ?_
    clear hcall
    rintro _ w ⟨A2503, c2504, m2505, rfl, hpost⟩ a ht
    replace hm := (hm.pick (own' := [] ++ [.vec A8502 0 25 1 0 ([]), .blk b1 28 (Col.cells x)]) [0, 1] rfl (by decide)).backL hpost
    clear hpost
    have hS : Ms X (fps []) w0 [.blk b1 28 (Col.cells x)] [] w := (hm.pick [2] rfl (by decide)).pickφ [] rfl
    refine wpList_nil (qn ⟨hS, ?_⟩)
    refine wph_take (i := 9) rfl (by kernel_rfl) (by kernel_rfl) (by kernel_rfl) (fun _ _ _ h => h) rfl ht hS (wanted_plain rfl) (fun w hm => ev_assign ht rfl rfl) ?_
    intro a ht
    refine wph_take (i := 10) rfl (by kernel_rfl) (by kernel_rfl) (by kernel_rfl) (fun _ _ _ h => h) rfl ht hS (wanted_plain rfl) (fun w hm => ev_assign ht rfl rfl) ?_
    intro a ht
    refine wph_take (i := 11) rfl (by kernel_rfl) (by kernel_rfl) (by kernel_rfl) (fun _ _ _ h => h) rfl ht hS (wanted_plain rfl) (fun w hm => ev_assign ht rfl rfl) ?_
    intro a ht
    refine wph_done (by kernel_rfl) ?_
    refine then_normal ?_
    refine wp_seq ?_
    refine wpr ?_
    refine wpl rfl rfl ht (ev_fieldAddr ht rfl rfl fo_28_0) ?_
    intro a ht
    refine wpl rfl rfl ht (ev_load ht rfl rfl sc_2 (hm.blk_cell 2 rfl rfl)) ?_
    intro a ht
    refine wpl rfl rfl ht (ev_convert ht rfl rfl und_2 und_53) ?_
    intro a ht
    refine wpl rfl rfl ht (ev_shl ht rfl rfl rfl (wrapU_nonneg _ _ rfl)) ?_
    intro a ht
    obtain ⟨u13003, eu13003, H⟩ := bind_get H
    refine wpl_make_ints rfl rfl ht hm rfl und_25 zo_2 sz1_2 by_2 rfl rfl (guardO_get eu13003) ?_
    intro A13002 m13004 c13005 a ht w hm
    refine wpl rfl rfl ht (ev_assign ht rfl rfl) ?_
    intro a ht
    refine wpList_nil ?_
    refine then_normal ?_
    refine wp_seq ?_
    refine wp_seq ?_
    refine wpr ?_
    refine wpl rfl rfl ht (ev_assign ht rfl rfl) ?_
    intro a ht
    refine wpList_nil ?_
    refine then_normal ?_
    refine wp_block ?_
    refine wpLoop (fun q a w => ∃ (ls0_1 : List Int) (xs0_2 : Int), spec_l04Matching.l0 q x t2502 ls0_1 xs0_2 = some r ∧ q ≤ k ∧ Tm 107 [(2, .pointer (some ⟨b1, 0, none⟩)), (4, .slice none 0 0), (5, .slice A2503 m2505 c2504), (6, .int .i64 (w64 ((shlI .i64 1 (wu64 x.p)) - 1))), (7, .slice A8502 0 0), (8, .slice A13002 m13004 c13005), (9, .int .i64 xs0_2)] a ∧ Ms X (fps []) w0 [.vec A13002 c13005 2 1 m13004 (ints ls0_1), .vec A2503 c2504 2 1 m2505 (ints t2502), .vec A8502 0 25 1 0 ([]), .blk b1 28 (Col.cells x)] [AllInts ([]) ([] : List (List Int))] w) (k0 := k) ⟨(List.replicate (shlI .i64 1 (wu64 x.p)).toNat (0 : Int)), 0, H, Nat.le_refl _, ht.sub ⟨rfl, rfl, rfl, rfl, rfl, rfl, rfl, trivial⟩, (hm.pick [0, 1, 2, 3] rfl (by decide)).pickφ [0] rfl⟩ ?_
    clear H ht hm
    intro q13006 a w hJ
    obtain ⟨ls0_1, xs0_2, H, hqq13006, ht, hm⟩ := hJ
    cases q13006 with
    | zero => cases H
    | succ q13006 =>
    rw [spec_l04Matching.l0] at H
    refine wp_seq ?_
    refine wp_seq ?_
    refine wpr ?_
    refine wpl rfl rfl ht (ev_move ht rfl rfl) ?_
    intro a ht
    refine wpl rfl rfl ht (ev_move ht rfl rfl) ?_
    intro a ht
    refine wpl rfl rfl ht (ev_len_of ht rfl rfl und_25 (hm.vec_row 0 rfl)) ?_
    intro a ht
    refine wpl rfl rfl ht (ev_cmp ht rfl rfl rfl rfl) ?_
    intro a ht
    refine wpList_nil ?_
    refine then_normal ?_
    by_cases h13007 : xs0_2 < (ls0_1.length : Int)
    · replace H := ite_yes h13007 H
      refine wpc_yes ht rfl (decide_eq_true h13007) ?_
      refine wp_skip ?_
      refine then_normal ?_
      refine wp_seq ?_
      refine wp_block ?_
      refine wpr ?_
      refine wpl rfl rfl ht (ev_move ht rfl rfl) ?_
      intro a ht
      refine wpl rfl rfl ht (ev_move ht rfl rfl) ?_
      intro a ht
      obtain ⟨t13008, et13008, H⟩ := bind_get H
      refine wpl rfl rfl ht (ev_index_ints ht rfl rfl rfl so_25 (hm.vec_row 0 rfl) et13008) ?_
      intro a ht
      refine wpl_store_int 0 rfl rfl ht hm rfl rfl rfl sz1_2 rfl et13008 ?_
      intro a ht w hm
      refine wpList_nil ?_
      refine blk_normal ?_
      refine then_normal ?_
      refine wpr ?_
      refine wpl rfl rfl ht (ev_move ht rfl rfl) ?_
      intro a ht
      refine wpl rfl rfl ht (ev_arith ht rfl rfl rfl rfl) ?_
      intro a ht
      refine wpl rfl rfl ht (ev_assign ht rfl rfl) ?_
      intro a ht
      refine wpList_nil ?_
      exact then_normal ⟨q13006, by omega, (ls0_1.set xs0_2.toNat (-1)), (w64 (xs0_2 + 1)), H, by omega, ht.sub ⟨rfl, rfl, rfl, rfl, rfl, rfl, rfl, trivial⟩, (hm.pick [0, 1, 2, 3] rfl (by decide)).pickφ [0] rfl⟩
    · replace H := ite_no h13007 H
      refine wpc_no ht rfl (decide_eq_false h13007) ?_
      refine wp_exit ?_
      refine then_exit ?_
      refine then_exit ?_
      refine blk_hit ?_
      refine then_normal ?_
      refine wp_seq ?_
      refine wp_seq ?_
      refine wpr ?_
      refine wpl rfl rfl ht (ev_assign ht rfl rfl) ?_
      intro a ht
      refine wpList_nil ?_
      refine then_normal ?_
      refine wp_block ?_
      refine wpLoop (fun q a w => ∃ (ls1_1 : List Int) (ls1_5 : List (List Int)) (xs1_7 : Int) (xs1_8 : Int) (As1_2 : Option Addr) (cs1_3 : Nat) (ms1_4 : Nat) (vss1_6 : List Value), spec_l04Matching.l1 q x t2502 ls1_1 ls1_5 xs1_7 xs1_8 = some r ∧ q ≤ q13006 ∧ Tm 107 [(2, .pointer (some ⟨b1, 0, none⟩)), (4, .slice none 0 0), (5, .slice A2503 m2505 c2504), (7, .slice As1_2 ms1_4 cs1_3), (8, .slice A13002 m13004 c13005), (6, .int .i64 xs1_7), (10, .int .i64 xs1_8)] a ∧ Ms X (fps []) w0 [.vec A13002 c13005 2 1 m13004 (ints ls1_1), .vec A2503 c2504 2 1 m2505 (ints t2502), .vec As1_2 cs1_3 25 1 ms1_4 vss1_6, .blk b1 28 (Col.cells x)] [AllInts vss1_6 ls1_5] w) (k0 := q13006) ⟨ls0_1, ([] : List (List Int)), (w64 ((shlI .i64 1 (wu64 x.p)) - 1)), 0, A8502, 0, 0, ([]), H, Nat.le_refl _, ht.sub ⟨rfl, rfl, rfl, rfl, rfl, rfl, rfl, trivial⟩, (hm.pick [0, 1, 2, 3] rfl (by decide)).pickφ [0] rfl⟩ ?_
      clear H ht hm
      intro q13009 a w hJ
      obtain ⟨ls1_1, ls1_5, xs1_7, xs1_8, As1_2, cs1_3, ms1_4, vss1_6, H, hqq13009, ht, hm⟩ := hJ
      cases q13009 with
      | zero => cases H
      | succ q13009 =>
      rw [spec_l04Matching.l1] at H
      refine wp_seq ?_
      refine wp_seq ?_
      refine wpr ?_
      refine wpl rfl rfl ht (ev_move ht rfl rfl) ?_
      intro a ht
      refine wpl rfl rfl ht (ev_fieldAddr ht rfl rfl fo_28_0) ?_
      intro a ht
      refine wpl rfl rfl ht (ev_load ht rfl rfl sc_2 (hm.blk_cell 3 rfl rfl)) ?_
      intro a ht
      refine wpl rfl rfl ht (ev_cmp ht rfl rfl rfl rfl) ?_
      intro a ht
      refine wpList_nil ?_
      refine then_normal ?_
      by_cases h13010 : xs1_8 < x.p
      · replace H := ite_yes h13010 H
        refine wpc_yes ht rfl (decide_eq_true h13010) ?_
        refine wp_skip ?_
        refine then_normal ?_
        refine wp_seq ?_
        refine wp_block ?_
        refine wp_seq ?_
        refine wpr ?_
        refine wpl rfl rfl ht (ev_move ht rfl rfl) ?_
        intro a ht
        refine wpl rfl rfl ht (ev_convert ht rfl rfl und_2 und_53) ?_
        intro a ht
        refine wpl rfl rfl ht (ev_shl ht rfl rfl rfl (wrapU_nonneg _ _ rfl)) ?_
        intro a ht
        refine wpl rfl rfl ht (ev_assign ht rfl rfl) ?_
        intro a ht
        refine wpList_nil ?_
        refine then_normal ?_
        refine wp_seq ?_
        refine wp_seq ?_
        refine wpr ?_
        refine wpl rfl rfl ht (ev_move ht rfl rfl) ?_
        intro a ht
        refine wpl rfl rfl ht (ev_move ht rfl rfl) ?_
        intro a ht
        refine wpl rfl rfl ht (ev_bit ht rfl rfl rfl rfl) ?_
        intro a ht
        refine wpl rfl rfl ht (ev_cmp ht rfl rfl rfl rfl) ?_
        intro a ht
        refine wpList_nil ?_
        refine then_normal ?_
        by_cases h13011 : (bitop .and .i64 xs1_7 (shlI .i64 1 (wu64 xs1_8))) = 0
        · replace H := ite_yes h13011 H
          refine wpc_yes ht rfl (decide_eq_true h13011) ?_
          refine wp_exit ?_
          refine then_exit ?_
          refine blk_hit ?_
          refine then_normal ?_
          refine wpr ?_
          refine wpl rfl rfl ht (ev_move ht rfl rfl) ?_
          intro a ht
          refine wpl rfl rfl ht (ev_arith ht rfl rfl rfl rfl) ?_
          intro a ht
          refine wpl rfl rfl ht (ev_assign ht rfl rfl) ?_
          intro a ht
          refine wpList_nil ?_
          exact then_normal ⟨q13009, by omega, ls1_1, ls1_5, xs1_7, (w64 (xs1_8 + 1)), As1_2, cs1_3, ms1_4, vss1_6, H, by omega, ht.sub ⟨rfl, rfl, rfl, rfl, rfl, rfl, rfl, trivial⟩, (hm.pick [0, 1, 2, 3] rfl (by decide)).pickφ [0] rfl⟩
        · replace H := ite_no h13011 H
          refine wpc_no ht rfl (decide_eq_false h13011) ?_
          refine wp_skip ?_
          refine then_normal ?_
          refine wp_seq ?_
          refine wpr ?_
          refine wpl rfl rfl ht (ev_move ht rfl rfl) ?_
          intro a ht
          refine wpl rfl rfl ht (ev_move ht rfl rfl) ?_
          intro a ht
          refine wpl rfl rfl ht (ev_bit ht rfl rfl rfl rfl) ?_
          intro a ht
          refine wpl rfl rfl ht (ev_assign ht rfl rfl) ?_
          intro a ht
          refine wpList_nil ?_
          refine then_normal ?_
          refine wp_seq ?_
          refine wp_seq ?_
          refine wpr ?_
          refine wpl rfl rfl ht (ev_move ht rfl rfl) ?_
          intro a ht
          refine wpl rfl rfl ht (ev_arith ht rfl rfl rfl rfl) ?_
          intro a ht
          refine wpl rfl rfl ht (ev_assign ht rfl rfl) ?_
          intro a ht
          refine wpList_nil ?_
          refine then_normal ?_
          refine wp_block ?_
          refine wpLoop (fun q a w => ∃ (ls2_1 : List Int) (xs2_2 : Int), spec_l04Matching.l2 q x t2502 ls1_5 xs1_7 xs1_8 ls2_1 xs2_2 = some r ∧ q ≤ q13009 ∧ Tm 107 [(2, .pointer (some ⟨b1, 0, none⟩)), (4, .slice none 0 0), (5, .slice A2503 m2505 c2504), (6, .int .i64 xs1_7), (7, .slice As1_2 ms1_4 cs1_3), (8, .slice A13002 m13004 c13005), (10, .int .i64 xs1_8), (11, .int .i64 (shlI .i64 1 (wu64 xs1_8))), (12, .int .i64 (bitop .xor .i64 xs1_7 (shlI .i64 1 (wu64 xs1_8)))), (37, .int .i64 xs1_8), (38, .pointer (some ⟨b1, 0 + 0, none⟩)), (39, .int .i64 x.p), (40, .bool (decide (xs1_8 < x.p))), (43, .int .i64 xs1_8), (44, .int .u64 (wu64 xs1_8)), (45, .int .i64 (shlI .i64 1 (wu64 xs1_8))), (46, .int .i64 xs1_7), (47, .int .i64 (shlI .i64 1 (wu64 xs1_8))), (48, .int .i64 (bitop .and .i64 xs1_7 (shlI .i64 1 (wu64 xs1_8)))), (49, .bool (decide ((bitop .and .i64 xs1_7 (shlI .i64 1 (wu64 xs1_8))) = 0))), (50, .int .i64 xs1_7), (51, .int .i64 (shlI .i64 1 (wu64 xs1_8))), (52, .int .i64 (bitop .xor .i64 xs1_7 (shlI .i64 1 (wu64 xs1_8)))), (53, .int .i64 xs1_8), (54, .int .i64 (w64 (xs1_8 + 1))), (13, .int .i64 xs2_2)] a ∧ Ms X (fps []) w0 [.vec A13002 c13005 2 1 m13004 (ints ls2_1), .vec A2503 c2504 2 1 m2505 (ints t2502), .vec As1_2 cs1_3 25 1 ms1_4 vss1_6, .blk b1 28 (Col.cells x)] [AllInts vss1_6 ls1_5] w) (k0 := q13009) ⟨ls1_1, (w64 (xs1_8 + 1)), H, Nat.le_refl _, ht.sub ⟨rfl, rfl, rfl, rfl, rfl, rfl, rfl, rfl, rfl, rfl, rfl, rfl, rfl, rfl, rfl, rfl, rfl, rfl, rfl, rfl, rfl, rfl, rfl, rfl, rfl, rfl, trivial⟩, (hm.pick [0, 1, 2, 3] rfl (by decide)).pickφ [0] rfl⟩ ?_
          clear H ht hm
          intro q13012 a w hJ
          obtain ⟨ls2_1, xs2_2, H, hqq13012, ht, hm⟩ := hJ
          cases q13012 with
          | zero => cases H
          | succ q13012 =>
          rw [spec_l04Matching.l2] at H
          refine wp_seq ?_
          refine wp_seq ?_
          refine wpr ?_
          refine wpl rfl rfl ht (ev_move ht rfl rfl) ?_
          intro a ht
          refine wpl rfl rfl ht (ev_fieldAddr ht rfl rfl fo_28_0) ?_
          intro a ht
          refine wpl rfl rfl ht (ev_load ht rfl rfl sc_2 (hm.blk_cell 3 rfl rfl)) ?_
          intro a ht
          refine wpl rfl rfl ht (ev_cmp ht rfl rfl rfl rfl) ?_
          intro a ht
          refine wpList_nil ?_
          refine then_normal ?_
          by_cases h13013 : xs2_2 < x.p
          · replace H := ite_yes h13013 H
            refine wpc_yes ht rfl (decide_eq_true h13013) ?_
            refine wp_skip ?_
            refine then_normal ?_
            refine wp_seq ?_
            refine wp_block ?_
            refine wp_seq ?_
            refine wpr ?_
            refine wpl rfl rfl ht (ev_move ht rfl rfl) ?_
            intro a ht
            refine wpl rfl rfl ht (ev_move ht rfl rfl) ?_
            intro a ht
            refine wpl rfl rfl ht (ev_convert ht rfl rfl und_2 und_53) ?_
            intro a ht
            refine wpl rfl rfl ht (ev_shr ht rfl rfl rfl (wrapU_nonneg _ _ rfl)) ?_
            intro a ht
            refine wpl rfl rfl ht (ev_bit ht rfl rfl rfl rfl) ?_
            intro a ht
            refine wpl rfl rfl ht (ev_cmp ht rfl rfl rfl rfl) ?_
            intro a ht
            refine wpl rfl rfl ht (ev_move ht rfl rfl) ?_
            intro a ht
            by_cases h13014 : (bitop .and .i64 (shrI .i64 (bitop .xor .i64 xs1_7 (shlI .i64 1 (wu64 xs1_8))) (wu64 xs2_2)) 1) = 1
            · replace H := ite_yes h13014 H
              refine wpl_yes rfl ht rfl ((decide_eq_true h13014)) ?_
              refine wpl rfl rfl ht (ev_move ht rfl rfl) ?_
              intro a ht
              refine wpl_yes rfl ht rfl ((decide_eq_true h13014)) ?_
              refine wpl rfl rfl ht (ev_move ht rfl rfl) ?_
              intro a ht
              refine wpl_yes rfl ht rfl ((decide_eq_true h13014)) ?_
              obtain ⟨t13015, et13015, H⟩ := bind_get H
              refine wpl rfl rfl ht (ev_index_ints ht rfl rfl rfl so_25 (hm.vec_row 1 rfl) et13015) ?_
              intro a ht
              refine wpl_yes rfl ht rfl ((decide_eq_true h13014)) ?_
              refine wpl rfl rfl ht (ev_load ht rfl rfl sc_2 (RowAt.cell (hm.vec_row 1 rfl) (ints_get et13015) rfl)) ?_
              intro a ht
              refine wpl_yes rfl ht rfl ((decide_eq_true h13014)) ?_
              refine wpl rfl rfl ht (ev_move ht rfl rfl) ?_
              intro a ht
              refine wpl_yes rfl ht rfl ((decide_eq_true h13014)) ?_
              refine wpl rfl rfl ht (ev_convert ht rfl rfl und_2 und_53) ?_
              intro a ht
              refine wpl_yes rfl ht rfl ((decide_eq_true h13014)) ?_
              refine wpl rfl rfl ht (ev_shr ht rfl rfl rfl (wrapU_nonneg _ _ rfl)) ?_
              intro a ht
              refine wpl_yes rfl ht rfl ((decide_eq_true h13014)) ?_
              refine wpl rfl rfl ht (ev_bit ht rfl rfl rfl rfl) ?_
              intro a ht
              refine wpl_yes rfl ht rfl ((decide_eq_true h13014)) ?_
              refine wpl rfl rfl ht (ev_cmp ht rfl rfl rfl rfl) ?_
              intro a ht
              refine wpl rfl rfl ht (ev_pick_yes ht rfl rfl (decide_eq_true h13014) rfl) ?_
              intro a ht
              refine wpl rfl rfl ht (ev_move ht rfl rfl) ?_
              intro a ht
              by_cases h13016 : (bitop .and .i64 (shrI .i64 t13015 (wu64 xs2_2)) 1) = 1
              · replace H := ite_yes h13016 H
                refine wpl_yes rfl ht rfl ((decide_eq_true h13016)) ?_
                refine wpl rfl rfl ht (ev_move ht rfl rfl) ?_
                intro a ht
                refine wpl_yes rfl ht rfl ((decide_eq_true h13016)) ?_
                refine wpl rfl rfl ht (ev_move ht rfl rfl) ?_
                intro a ht
                refine wpl_yes rfl ht rfl ((decide_eq_true h13016)) ?_
                refine wpl rfl rfl ht (ev_move ht rfl rfl) ?_
                intro a ht
                refine wpl_yes rfl ht rfl ((decide_eq_true h13016)) ?_
                refine wpl rfl rfl ht (ev_move ht rfl rfl) ?_
                intro a ht
                refine wpl_yes rfl ht rfl ((decide_eq_true h13016)) ?_
                refine wpl rfl rfl ht (ev_convert ht rfl rfl und_2 und_53) ?_
                intro a ht
                refine wpl_yes rfl ht rfl ((decide_eq_true h13016)) ?_
                refine wpl rfl rfl ht (ev_shl ht rfl rfl rfl (wrapU_nonneg _ _ rfl)) ?_
                intro a ht
                refine wpl_yes rfl ht rfl ((decide_eq_true h13016)) ?_
                refine wpl rfl rfl ht (ev_bit ht rfl rfl rfl rfl) ?_
                intro a ht
                refine wpl_yes rfl ht rfl ((decide_eq_true h13016)) ?_
                obtain ⟨t13017, et13017, H⟩ := bind_get H
                have hcall := spec_l04Match.calls q13012 _ _ A2503 c2504 m2505 A13002 c13005 m13004 t2502 ls2_1 (bitop .xor .i64 (bitop .xor .i64 xs1_7 (shlI .i64 1 (wu64 xs1_8))) (shlI .i64 1 (wu64 xs2_2))) _ ((fun (hq : Ms _ _ _ ([.vec A13002 c13005 2 1 m13004 (ints ls2_1)] ++ [.vec A2503 c2504 2 1 m2505 (ints t2502), .vec As1_2 cs1_3 25 1 ms1_4 vss1_6, .blk b1 28 (Col.cells x)]) _ _) => hq.lend (φp := [IntsAt A2503 c2504 m2505 t2502]) (allRO_cons (hq.lendVec 0 rfl) (allRO_nil))) (hm.pick (own' := [.vec A13002 c13005 2 1 m13004 (ints ls2_1)] ++ [.vec A2503 c2504 2 1 m2505 (ints t2502), .vec As1_2 cs1_3 25 1 ms1_4 vss1_6, .blk b1 28 (Col.cells x)]) [0, 1, 2, 3] rfl (by decide))) et13017
                refine wpl_call _ rfl rfl ht rfl rfl rfl rfl can_41 hcall ?_
                clear hcall
                rintro _ w ⟨rfl, hpost⟩ a ht
                replace hm := (hm.pick (own' := [.vec A13002 c13005 2 1 m13004 (ints ls2_1)] ++ [.vec A2503 c2504 2 1 m2505 (ints t2502), .vec As1_2 cs1_3 25 1 ms1_4 vss1_6, .blk b1 28 (Col.cells x)]) [0, 1, 2, 3] rfl (by decide)).backL hpost
                clear hpost
                refine wpl_yes rfl ht rfl ((decide_eq_true h13016)) ?_
                refine wpl rfl rfl ht (ev_arith ht rfl rfl rfl rfl) ?_
                intro a ht
                refine wpl_yes rfl ht rfl ((decide_eq_true h13016)) ?_
                refine wpl rfl rfl ht (ev_move ht rfl rfl) ?_
                intro a ht
                refine wpl_yes rfl ht rfl ((decide_eq_true h13016)) ?_
                refine wpl rfl rfl ht (ev_move ht rfl rfl) ?_
                intro a ht
                refine wpl_yes rfl ht rfl ((decide_eq_true h13016)) ?_
                refine wpl rfl rfl ht (ev_move ht rfl rfl) ?_
                intro a ht
                refine wpl_yes rfl ht rfl ((decide_eq_true h13016)) ?_
                obtain ⟨t13018, et13018, H⟩ := bind_get H
                have hcall := spec_l04Match.calls q13012 _ _ A2503 c2504 m2505 A13002 c13005 m13004 t2502 t13017.2 xs1_7 _ ((fun (hq : Ms _ _ _ ([.vec A13002 c13005 2 1 m13004 (ints t13017.2)] ++ [.vec A2503 c2504 2 1 m2505 (ints t2502), .vec As1_2 cs1_3 25 1 ms1_4 vss1_6, .blk b1 28 (Col.cells x)]) _ _) => hq.lend (φp := [IntsAt A2503 c2504 m2505 t2502]) (allRO_cons (hq.lendVec 0 rfl) (allRO_nil))) (hm.pick (own' := [.vec A13002 c13005 2 1 m13004 (ints t13017.2)] ++ [.vec A2503 c2504 2 1 m2505 (ints t2502), .vec As1_2 cs1_3 25 1 ms1_4 vss1_6, .blk b1 28 (Col.cells x)]) [0, 1, 2, 3] rfl (by decide))) et13018
                refine wpl_call _ rfl rfl ht rfl rfl rfl rfl can_41 hcall ?_
                clear hcall
                rintro _ w ⟨rfl, hpost⟩ a ht
                replace hm := (hm.pick (own' := [.vec A13002 c13005 2 1 m13004 (ints t13017.2)] ++ [.vec A2503 c2504 2 1 m2505 (ints t2502), .vec As1_2 cs1_3 25 1 ms1_4 vss1_6, .blk b1 28 (Col.cells x)]) [0, 1, 2, 3] rfl (by decide)).backL hpost
                clear hpost
                refine wpl_yes rfl ht rfl ((decide_eq_true h13016)) ?_
                refine wpl rfl rfl ht (ev_cmp ht rfl rfl rfl rfl) ?_
                intro a ht
                refine wpl rfl rfl ht (ev_pick_yes ht rfl rfl (decide_eq_true h13016) rfl) ?_
                intro a ht
                refine wpList_nil ?_
                refine then_normal ?_
                by_cases h13019 : (w64 (1 + t13017.1)) = t13018.1
                · replace H := ite_yes h13019 H
                  refine wpc_yes ht rfl (decide_eq_true h13019) ?_
                  refine wp_seq ?_
                  refine wpr ?_
                  refine wpl rfl rfl ht (ev_move ht rfl rfl) ?_
                  intro a ht
                  refine wpl rfl rfl ht (ev_move ht rfl rfl) ?_
                  intro a ht
                  refine wpl rfl rfl ht (ev_move ht rfl rfl) ?_
                  intro a ht
                  refine wpl_build_ints (l := [xs1_8, xs2_2]) rfl rfl ht hm rfl und_25 zo_2 sz1_2 (by decide) rfl rfl rfl ?_
                  intro A13020 a ht w hm
                  replace hm : Ms _ _ _ _ (IntsAt A13020 2 2 ([xs1_8, xs2_2]) :: _) w := hm.shutVec 0 rfl
                  replace hm : Ms _ _ _ _ (AllInts ([.slice A13020 2 2]) ([[xs1_8, xs2_2]]) :: _) w := hm.addφ (allInts_cons (hm.ro 0 rfl) (allInts_nil))
                  refine wpl_buildSlice (vs := [.slice A13020 2 2]) rfl rfl ht hm rfl und_33 zo_25 sz1_25 (by decide) rfl rfl rfl ?_
                  intro A13021 a ht w hm
                  obtain ⟨l13025, el13025, H⟩ := bind_get H
                  replace hm : Ms _ _ _ _ (AllInts (vss1_6 ++ ([.slice A13020 2 2])) l13025 :: _) w := hm.addφ (allInts_append el13025 (hm.ro 2 rfl) (hm.ro 0 rfl))
                  refine wpl_concat_rows (r := l13025) 3 0 3 1 rfl rfl ht hm rfl ap_33 rfl rfl rfl rfl rfl rfl el13025 ?_
                  intro A13022 c13023 m13024 a ht w hm
                  refine wpl rfl rfl ht (ev_assign ht rfl rfl) ?_
                  intro a ht
                  refine wpList_nil ?_
                  refine then_normal ?_
                  refine wp_seq ?_
                  refine wpr ?_
                  refine wpl rfl rfl ht (ev_move ht rfl rfl) ?_
                  intro a ht
                  refine wpl rfl rfl ht (ev_move ht rfl rfl) ?_
                  intro a ht
                  refine wpl rfl rfl ht (ev_convert ht rfl rfl und_2 und_53) ?_
                  intro a ht
                  refine wpl rfl rfl ht (ev_shl ht rfl rfl rfl (wrapU_nonneg _ _ rfl)) ?_
                  intro a ht
                  refine wpl rfl rfl ht (ev_bit ht rfl rfl rfl rfl) ?_
                  intro a ht
                  refine wpl rfl rfl ht (ev_assign ht rfl rfl) ?_
                  intro a ht
                  refine wpList_nil ?_
                  refine then_normal ?_
                  refine wp_exit ?_
                  refine blk_miss (by decide) ?_
                  refine then_exit ?_
                  refine then_exit ?_
                  refine blk_hit ?_
                  refine then_normal ?_
                  refine wpr ?_
                  refine wpl rfl rfl ht (ev_move ht rfl rfl) ?_
                  intro a ht
                  refine wpl rfl rfl ht (ev_assign ht rfl rfl) ?_
                  intro a ht
                  refine wpList_nil ?_
                  refine blk_normal ?_
                  refine then_normal ?_
                  refine wpr ?_
                  refine wpl rfl rfl ht (ev_move ht rfl rfl) ?_
                  intro a ht
                  refine wpl rfl rfl ht (ev_arith ht rfl rfl rfl rfl) ?_
                  intro a ht
                  refine wpl rfl rfl ht (ev_assign ht rfl rfl) ?_
                  intro a ht
                  refine wpList_nil ?_
                  exact then_normal ⟨q13012, by omega, t13018.2, l13025, (bitop .xor .i64 (bitop .xor .i64 xs1_7 (shlI .i64 1 (wu64 xs1_8))) (shlI .i64 1 (wu64 xs2_2))), (w64 (xs1_8 + 1)), A13022, c13023, m13024, (vss1_6 ++ ([.slice A13020 2 2])), H, by omega, ht.sub ⟨rfl, rfl, rfl, rfl, rfl, rfl, rfl, trivial⟩, (hm.pick [1, 2, 3, 4] rfl (by decide)).pickφ [0] rfl⟩
                · replace H := ite_no h13019 H
                  refine wpc_no ht rfl (decide_eq_false h13019) ?_
                  refine wp_skip ?_
                  refine blk_normal ?_
                  refine then_normal ?_
                  refine wpr ?_
                  refine wpl rfl rfl ht (ev_move ht rfl rfl) ?_
                  intro a ht
                  refine wpl rfl rfl ht (ev_arith ht rfl rfl rfl rfl) ?_
                  intro a ht
                  refine wpl rfl rfl ht (ev_assign ht rfl rfl) ?_
                  intro a ht
                  refine wpList_nil ?_
                  exact then_normal ⟨q13012, by omega, t13018.2, (w64 (xs2_2 + 1)), H, by omega, ht.sub ⟨rfl, rfl, rfl, rfl, rfl, rfl, rfl, rfl, rfl, rfl, rfl, rfl, rfl, rfl, rfl, rfl, rfl, rfl, rfl, rfl, rfl, rfl, rfl, rfl, rfl, rfl, trivial⟩, (hm.pick [0, 1, 2, 3] rfl (by decide)).pickφ [0] rfl⟩
              · replace H := ite_no h13016 H
                refine wpl_no rfl rfl ht rfl (by rw [(decide_eq_false h13016)]; decide) ?_
                intro a ht
                refine wpl_no rfl rfl ht rfl (by rw [(decide_eq_false h13016)]; decide) ?_
                intro a ht
                refine wpl_no rfl rfl ht rfl (by rw [(decide_eq_false h13016)]; decide) ?_
                intro a ht
                refine wpl_no rfl rfl ht rfl (by rw [(decide_eq_false h13016)]; decide) ?_
                intro a ht
                refine wpl_no rfl rfl ht rfl (by rw [(decide_eq_false h13016)]; decide) ?_
                intro a ht
                refine wpl_no rfl rfl ht rfl (by rw [(decide_eq_false h13016)]; decide) ?_
                intro a ht
                refine wpl_no rfl rfl ht rfl (by rw [(decide_eq_false h13016)]; decide) ?_
                intro a ht
                refine wpl_no rfl rfl ht rfl (by rw [(decide_eq_false h13016)]; decide) ?_
                intro a ht
                refine wpl_no rfl rfl ht rfl (by rw [(decide_eq_false h13016)]; decide) ?_
                intro a ht
                refine wpl_no rfl rfl ht rfl (by rw [(decide_eq_false h13016)]; decide) ?_
                intro a ht
                refine wpl_no rfl rfl ht rfl (by rw [(decide_eq_false h13016)]; decide) ?_
                intro a ht
                refine wpl_no rfl rfl ht rfl (by rw [(decide_eq_false h13016)]; decide) ?_
                intro a ht
                refine wpl_no rfl rfl ht rfl (by rw [(decide_eq_false h13016)]; decide) ?_
                intro a ht
                refine wpl_no rfl rfl ht rfl (by rw [(decide_eq_false h13016)]; decide) ?_
                intro a ht
                refine wpl rfl rfl ht (ev_pick_no ht rfl rfl (decide_eq_false h13016) rfl) ?_
                intro a ht
                refine wpList_nil ?_
                refine then_normal ?_
                refine wpc_no ht rfl rfl ?_
                refine wp_skip ?_
                refine blk_normal ?_
                refine then_normal ?_
                refine wpr ?_
                refine wpl rfl rfl ht (ev_move ht rfl rfl) ?_
                intro a ht
                refine wpl rfl rfl ht (ev_arith ht rfl rfl rfl rfl) ?_
                intro a ht
                refine wpl rfl rfl ht (ev_assign ht rfl rfl) ?_
                intro a ht
                refine wpList_nil ?_
                exact then_normal ⟨q13012, by omega, ls2_1, (w64 (xs2_2 + 1)), H, by omega, ht.sub ⟨rfl, rfl, rfl, rfl, rfl, rfl, rfl, rfl, rfl, rfl, rfl, rfl, rfl, rfl, rfl, rfl, rfl, rfl, rfl, rfl, rfl, rfl, rfl, rfl, rfl, rfl, trivial⟩, (hm.pick [0, 1, 2, 3] rfl (by decide)).pickφ [0] rfl⟩
            · replace H := ite_no h13014 H
              refine wpl_no rfl rfl ht rfl (by rw [(decide_eq_false h13014)]; decide) ?_
              intro a ht
              refine wpl_no rfl rfl ht rfl (by rw [(decide_eq_false h13014)]; decide) ?_
              intro a ht
              refine wpl_no rfl rfl ht rfl (by rw [(decide_eq_false h13014)]; decide) ?_
              intro a ht
              refine wpl_no rfl rfl ht rfl (by rw [(decide_eq_false h13014)]; decide) ?_
              intro a ht
              refine wpl_no rfl rfl ht rfl (by rw [(decide_eq_false h13014)]; decide) ?_
              intro a ht
              refine wpl_no rfl rfl ht rfl (by rw [(decide_eq_false h13014)]; decide) ?_
              intro a ht
              refine wpl_no rfl rfl ht rfl (by rw [(decide_eq_false h13014)]; decide) ?_
              intro a ht
              refine wpl_no rfl rfl ht rfl (by rw [(decide_eq_false h13014)]; decide) ?_
              intro a ht
              refine wpl_no rfl rfl ht rfl (by rw [(decide_eq_false h13014)]; decide) ?_
              intro a ht
              refine wpl rfl rfl ht (ev_pick_no ht rfl rfl (decide_eq_false h13014) rfl) ?_
              intro a ht
              refine wpl rfl rfl ht (ev_move ht rfl rfl) ?_
              intro a ht
              refine wpl_no rfl rfl ht rfl (by decide) ?_
              intro a ht
              refine wpl_no rfl rfl ht rfl (by decide) ?_
              intro a ht
              refine wpl_no rfl rfl ht rfl (by decide) ?_
              intro a ht
              refine wpl_no rfl rfl ht rfl (by decide) ?_
              intro a ht
              refine wpl_no rfl rfl ht rfl (by decide) ?_
              intro a ht
              refine wpl_no rfl rfl ht rfl (by decide) ?_
              intro a ht
              refine wpl_no rfl rfl ht rfl (by decide) ?_
              intro a ht
              refine wpl_no rfl rfl ht rfl (by decide) ?_
              intro a ht
              refine wpl_no rfl rfl ht rfl (by decide) ?_
              intro a ht
              refine wpl_no rfl rfl ht rfl (by decide) ?_
              intro a ht
              refine wpl_no rfl rfl ht rfl (by decide) ?_
              intro a ht
              refine wpl_no rfl rfl ht rfl (by decide) ?_
              intro a ht
              refine wpl_no rfl rfl ht rfl (by decide) ?_
              intro a ht
              refine wpl_no rfl rfl ht rfl (by decide) ?_
              intro a ht
              refine wpl rfl rfl ht (ev_pick_no ht rfl rfl rfl rfl) ?_
              intro a ht
              refine wpList_nil ?_
              refine then_normal ?_
              refine wpc_no ht rfl rfl ?_
              refine wp_skip ?_
              refine blk_normal ?_
              refine then_normal ?_
              refine wpr ?_
              refine wpl rfl rfl ht (ev_move ht rfl rfl) ?_
              intro a ht
              refine wpl rfl rfl ht (ev_arith ht rfl rfl rfl rfl) ?_
              intro a ht
              refine wpl rfl rfl ht (ev_assign ht rfl rfl) ?_
              intro a ht
              refine wpList_nil ?_
              exact then_normal ⟨q13012, by omega, ls2_1, (w64 (xs2_2 + 1)), H, by omega, ht.sub ⟨rfl, rfl, rfl, rfl, rfl, rfl, rfl, rfl, rfl, rfl, rfl, rfl, rfl, rfl, rfl, rfl, rfl, rfl, rfl, rfl, rfl, rfl, rfl, rfl, rfl, rfl, trivial⟩, (hm.pick [0, 1, 2, 3] rfl (by decide)).pickφ [0] rfl⟩
          · replace H := ite_no h13013 H
            refine wpc_no ht rfl (decide_eq_false h13013) ?_
            refine wp_exit ?_
            refine then_exit ?_
            refine then_exit ?_
            refine blk_hit ?_
            refine then_normal ?_
            refine wpr ?_
            refine wpl rfl rfl ht (ev_move ht rfl rfl) ?_
            intro a ht
            refine wpl rfl rfl ht (ev_assign ht rfl rfl) ?_
            intro a ht
            refine wpList_nil ?_
            refine blk_normal ?_
            refine then_normal ?_
            refine wpr ?_
            refine wpl rfl rfl ht (ev_move ht rfl rfl) ?_
            intro a ht
            refine wpl rfl rfl ht (ev_arith ht rfl rfl rfl rfl) ?_
            intro a ht
            refine wpl rfl rfl ht (ev_assign ht rfl rfl) ?_
            intro a ht
            refine wpList_nil ?_
            exact then_normal ⟨q13012, by omega, ls2_1, ls1_5, (bitop .xor .i64 xs1_7 (shlI .i64 1 (wu64 xs1_8))), (w64 (xs1_8 + 1)), As1_2, cs1_3, ms1_4, vss1_6, H, by omega, ht.sub ⟨rfl, rfl, rfl, rfl, rfl, rfl, rfl, trivial⟩, (hm.pick [0, 1, 2, 3] rfl (by decide)).pickφ [0] rfl⟩
      · replace H := ite_no h13010 H
        refine wpc_no ht rfl (decide_eq_false h13010) ?_
        refine wp_exit ?_
        refine then_exit ?_
        refine then_exit ?_
        refine blk_hit ?_
        refine then_normal ?_
        refine wp_seq ?_
        refine wpr ?_
        refine wpl rfl rfl ht (ev_move ht rfl rfl) ?_
        intro a ht
        refine wpl rfl rfl ht (ev_assign ht rfl rfl) ?_
        intro a ht
        refine wpList_nil ?_
        refine then_normal ?_
        refine wp_ret ?_
        have hres := ht.res (P := Try.prog) (w := w) (rs := [.tmp 4]) (vs := [.slice As1_2 ms1_4 cs1_3]) (.tmp rfl .nil)
        obtain rfl := Option.some.inj H
        exact leave ht rfl hres ⟨As1_2, cs1_3, ms1_4, vss1_6, rfl, ((hm.pick [2] rfl (by decide)).pickφ [0] rfl).post fun _ h => h⟩

end Go.Proofs.Ytjhcacfhahpdgaa.G
