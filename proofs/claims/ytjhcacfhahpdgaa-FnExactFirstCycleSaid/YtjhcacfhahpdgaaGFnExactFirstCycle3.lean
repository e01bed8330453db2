/- What each Go function computes, as a Lean function, and the proof that it does: written by a program of this session (wip/gen), part 3. -/
import Derived.Test.YtjhcacfhahpdgaaGFnExactFirstCycle2
namespace Go.Proofs.Ytjhcacfhahpdgaa.G
open Go Go.RowKit Go.Proofs.Ytjhcacfhahpdgaa.K
set_option linter.unusedVariables false
set_option linter.unusedSimpArgs false

/-! ### spec_l04Lengths: function 23 (loop.example/g01362/spec.l04Lengths) -/
mutual
def spec_l04Lengths.l0 : Nat → Col → List Int → List Bool → Int → Option (List Int)
  | 0, _, _, _, _ => none
  | q10 + 1, x, t2, ls0_1, xs0_2 => if xs0_2 < x.p then ((guardO (0 ≤ (shlI .i64 1 (wu64 x.p)) ∧ (shlI .i64 1 (wu64 x.p)) ≤ 1073741824)).bind fun _ => (getI (List.replicate (shlI .i64 1 (wu64 x.p)).toNat (0 : Int)) (shlI .i64 1 (wu64 xs0_2))).bind fun t16 => spec_l04Lengths.l1 q10 x t2 xs0_2 ((List.replicate (shlI .i64 1 (wu64 x.p)).toNat (0 : Int)).set (shlI .i64 1 (wu64 xs0_2)).toNat (shlI .i64 1 (wu64 xs0_2))) ls0_1 (shlI .i64 1 (wu64 xs0_2))) else (spec_l04Lengths.l6 q10 x ls0_1 ([] : List Int) 3)
def spec_l04Lengths.l1 : Nat → Col → List Int → Int → List Int → List Bool → Int → Option (List Int)
  | 0, _, _, _, _, _, _ => none
  | q17 + 1, x, t2, xs0_2, ls1_1, ls1_2, xs1_3 => if xs1_3 < (ls1_1.length : Int) then ((getI ls1_1 xs1_3).bind fun t19 => if t19 = 0 then (spec_l04Lengths.l1 q17 x t2 xs0_2 ls1_1 ls1_2 (w64 (xs1_3 + 1))) else (spec_l04Lengths.l2 q17 x t2 xs0_2 xs1_3 ls1_1 ls1_2 xs0_2)) else (spec_l04Lengths.l0 q17 x t2 ls1_2 (w64 (xs0_2 + 1)))
def spec_l04Lengths.l2 : Nat → Col → List Int → Int → Int → List Int → List Bool → Int → Option (List Int)
  | 0, _, _, _, _, _, _, _ => none
  | q21 + 1, x, t2, xs0_2, xs1_3, ls2_1, ls2_2, xs2_3 => if xs2_3 < x.p then ((getI ls2_1 xs1_3).bind fun t23 => if (bitop .and .i64 (shrI .i64 t23 (wu64 xs2_3)) 1) = 0 then (spec_l04Lengths.l2 q21 x t2 xs0_2 xs1_3 ls2_1 ls2_2 (w64 (xs2_3 + 1))) else ((spec_l01Ones.f q21 xs1_3).bind fun t25 => if t25 > 2 then ((getI t2 xs2_3).bind fun t27 => if (bitop .and .i64 (shrI .i64 t27 (wu64 xs0_2)) 1) = 1 then ((getT ls2_2 t25).bind fun b29 => spec_l04Lengths.l3 q21 x t2 xs0_2 xs1_3 ls2_2 xs2_3 t25 ls2_1 (w64 (xs0_2 + 1))) else (spec_l04Lengths.l4 q21 x t2 xs0_2 xs1_3 ls2_2 xs2_3 ls2_1 (w64 (xs0_2 + 1)))) else (spec_l04Lengths.l5 q21 x t2 xs0_2 xs1_3 ls2_2 xs2_3 ls2_1 (w64 (xs0_2 + 1))))) else (spec_l04Lengths.l1 q21 x t2 xs0_2 ls2_1 ls2_2 (w64 (xs1_3 + 1)))
def spec_l04Lengths.l3 : Nat → Col → List Int → Int → Int → List Bool → Int → Int → List Int → Int → Option (List Int)
  | 0, _, _, _, _, _, _, _, _, _ => none
  | q30 + 1, x, t2, xs0_2, xs1_3, ls2_2, xs2_3, t25, ls3_1, xs3_2 => if xs3_2 < x.p then ((getI t2 xs2_3).bind fun t32 => if (bitop .and .i64 (shrI .i64 t32 (wu64 xs3_2)) 1) = 1 then (if (bitop .and .i64 (shrI .i64 xs1_3 (wu64 xs3_2)) 1) = 0 then ((getI ls3_1 (bitop .or .i64 xs1_3 (shlI .i64 1 (wu64 xs3_2)))).bind fun t35 => (getI ls3_1 (bitop .or .i64 xs1_3 (shlI .i64 1 (wu64 xs3_2)))).bind fun t36 => spec_l04Lengths.l3 q30 x t2 xs0_2 xs1_3 ls2_2 xs2_3 t25 (ls3_1.set (bitop .or .i64 xs1_3 (shlI .i64 1 (wu64 xs3_2))).toNat (bitop .or .i64 t35 (shlI .i64 1 (wu64 xs3_2)))) (w64 (xs3_2 + 1))) else (spec_l04Lengths.l3 q30 x t2 xs0_2 xs1_3 ls2_2 xs2_3 t25 ls3_1 (w64 (xs3_2 + 1)))) else (spec_l04Lengths.l3 q30 x t2 xs0_2 xs1_3 ls2_2 xs2_3 t25 ls3_1 (w64 (xs3_2 + 1)))) else (spec_l04Lengths.l2 q30 x t2 xs0_2 xs1_3 ls3_1 (ls2_2.set t25.toNat true) (w64 (xs2_3 + 1)))
def spec_l04Lengths.l4 : Nat → Col → List Int → Int → Int → List Bool → Int → List Int → Int → Option (List Int)
  | 0, _, _, _, _, _, _, _, _ => none
  | q37 + 1, x, t2, xs0_2, xs1_3, ls2_2, xs2_3, ls4_1, xs4_2 => if xs4_2 < x.p then ((getI t2 xs2_3).bind fun t39 => if (bitop .and .i64 (shrI .i64 t39 (wu64 xs4_2)) 1) = 1 then (if (bitop .and .i64 (shrI .i64 xs1_3 (wu64 xs4_2)) 1) = 0 then ((getI ls4_1 (bitop .or .i64 xs1_3 (shlI .i64 1 (wu64 xs4_2)))).bind fun t42 => (getI ls4_1 (bitop .or .i64 xs1_3 (shlI .i64 1 (wu64 xs4_2)))).bind fun t43 => spec_l04Lengths.l4 q37 x t2 xs0_2 xs1_3 ls2_2 xs2_3 (ls4_1.set (bitop .or .i64 xs1_3 (shlI .i64 1 (wu64 xs4_2))).toNat (bitop .or .i64 t42 (shlI .i64 1 (wu64 xs4_2)))) (w64 (xs4_2 + 1))) else (spec_l04Lengths.l4 q37 x t2 xs0_2 xs1_3 ls2_2 xs2_3 ls4_1 (w64 (xs4_2 + 1)))) else (spec_l04Lengths.l4 q37 x t2 xs0_2 xs1_3 ls2_2 xs2_3 ls4_1 (w64 (xs4_2 + 1)))) else (spec_l04Lengths.l2 q37 x t2 xs0_2 xs1_3 ls4_1 ls2_2 (w64 (xs2_3 + 1)))
def spec_l04Lengths.l5 : Nat → Col → List Int → Int → Int → List Bool → Int → List Int → Int → Option (List Int)
  | 0, _, _, _, _, _, _, _, _ => none
  | q44 + 1, x, t2, xs0_2, xs1_3, ls2_2, xs2_3, ls5_1, xs5_2 => if xs5_2 < x.p then ((getI t2 xs2_3).bind fun t46 => if (bitop .and .i64 (shrI .i64 t46 (wu64 xs5_2)) 1) = 1 then (if (bitop .and .i64 (shrI .i64 xs1_3 (wu64 xs5_2)) 1) = 0 then ((getI ls5_1 (bitop .or .i64 xs1_3 (shlI .i64 1 (wu64 xs5_2)))).bind fun t49 => (getI ls5_1 (bitop .or .i64 xs1_3 (shlI .i64 1 (wu64 xs5_2)))).bind fun t50 => spec_l04Lengths.l5 q44 x t2 xs0_2 xs1_3 ls2_2 xs2_3 (ls5_1.set (bitop .or .i64 xs1_3 (shlI .i64 1 (wu64 xs5_2))).toNat (bitop .or .i64 t49 (shlI .i64 1 (wu64 xs5_2)))) (w64 (xs5_2 + 1))) else (spec_l04Lengths.l5 q44 x t2 xs0_2 xs1_3 ls2_2 xs2_3 ls5_1 (w64 (xs5_2 + 1)))) else (spec_l04Lengths.l5 q44 x t2 xs0_2 xs1_3 ls2_2 xs2_3 ls5_1 (w64 (xs5_2 + 1)))) else (spec_l04Lengths.l2 q44 x t2 xs0_2 xs1_3 ls5_1 ls2_2 (w64 (xs2_3 + 1)))
def spec_l04Lengths.l6 : Nat → Col → List Bool → List Int → Int → Option (List Int)
  | 0, _, _, _, _ => none
  | q52 + 1, x, ls0_1, ls6_4, xs6_5 => if xs6_5 ≤ x.p then ((getT ls0_1 xs6_5).bind fun b54 => if b54 = true then ((push ls6_4 xs6_5).bind fun l60 => spec_l04Lengths.l6 q52 x ls0_1 l60 (w64 (xs6_5 + 1))) else (spec_l04Lengths.l6 q52 x ls0_1 ls6_4 (w64 (xs6_5 + 1)))) else (some ls6_4)
end
def spec_l04Lengths.f (k : Nat) (x : Col) (c : Int) : Option (List Int) := (spec_l02Rows.f k x c).bind fun t2 => (guardO (0 ≤ (w64 (x.p + 1)) ∧ (w64 (x.p + 1)) ≤ 1073741824)).bind fun _ => spec_l04Lengths.l0 k x t2 (List.replicate (w64 (x.p + 1)).toNat false) 0
set_option maxRecDepth 100000 in
set_option maxHeartbeats 1000000 in
theorem spec_l04Lengths.calls (k : Nat) (X : List Nat) (w0 : World)  (x : Col) (c : Int) (r : List Int)
    (hp : Pre X w0 [] []) (H : spec_l04Lengths.f k x c = some r) :
    Calls Try.prog 23 [.agg (Col.cells x).toArray, .int .i64 c].toArray w0 (Ret fun v w => ∃ (A_0 : Option Addr) (c_0 : Nat) (n_0 : Nat), v = .slice A_0 n_0 c_0 ∧ Post X (fps []) w0 [.vec A_0 c_0 2 1 n_0 (ints r)] [] w) := by
  unfold spec_l04Lengths.f at H
  refine enterM (n := 144) hp Try.func23 rfl rfl (Nat.le_of_ble_eq_true rfl) fun a w ht hm => ?_
  refine wp_seq ?_
  refine wpr ?_
  refine wpl_box rfl rfl ht hm rfl rfl rfl ?_
  intro b1 a ht w hm
  refine wpl rfl rfl ht (ev_assign ht rfl rfl) ?_
  intro a ht
  refine wpList_nil ?_
  refine then_normal ?_
  refine wp_seq ?_
  refine wph_begin (fun w => Ms X (fps []) w0 [.blk b1 28 (Col.cells x)] [] w) mixed ?_
  replace hm := hm.drew
  have hS : Ms X (fps []) w0 [.blk b1 28 (Col.cells x)] [] w.drew := (hm.pick [0] rfl (by decide)).pickφ [] rfl
  generalize w.drew = w at hm hS ⊢
  refine wph_take (i := 0) rfl (by kernel_rfl) (by kernel_rfl) (by kernel_rfl) (fun _ _ _ h => h) rfl ht hS (wanted_plain rfl) (fun w hm => ev_load_agg ht rfl rfl (ag_28.trans (by first | rw [Col.length_cells] | rfl)) (hm.blk_all 0 rfl)) ?_
  intro a ht
  refine wph_take (i := 1) rfl (by kernel_rfl) (by kernel_rfl) (by kernel_rfl) (fun _ _ _ h => h) rfl ht hS (wanted_plain rfl) (fun w hm => ev_move ht rfl rfl) ?_
  intro a ht
  refine wph_take (i := 3) rfl (by kernel_rfl) (by kernel_rfl) (by kernel_rfl) (fun _ _ _ h => h) rfl ht hS (wanted_plain rfl) (fun w hm => ev_fieldAddr ht rfl rfl fo_28_0) ?_
  intro a ht
  refine wph_take (i := 4) rfl (by kernel_rfl) (by kernel_rfl) (by kernel_rfl) (fun _ _ _ h => h) rfl ht hS (wanted_plain rfl) (fun w hm => ev_load ht rfl rfl sc_2 (hm.blk_cell 0 rfl rfl)) ?_
  intro a ht
  refine wph_one (i := 2) (by kernel_rfl) (wph_step rfl ?_)
  obtain ⟨t2, et2, H⟩ := bind_get H
  have hcall := spec_l02Rows.calls k _ _ x c _ ((fun (hq : Ms _ _ _ ([] ++ [.blk b1 28 (Col.cells x)]) _ _) => hq.lend (φp := []) (allRO_nil)) (hm.pick (own' := [] ++ [.blk b1 28 (Col.cells x)]) [0] rfl (by decide))) et2
  refine wpl_call _ rfl rfl ht rfl rfl rfl rfl can_36 hcall ?_
  clear hcall
  rintro _ w ⟨A3, c4, m5, rfl, hpost⟩ a ht
  replace hm := (hm.pick (own' := [] ++ [.blk b1 28 (Col.cells x)]) [0] rfl (by decide)).backL hpost
  clear hpost
  have hS : Ms X (fps []) w0 [.blk b1 28 (Col.cells x)] [] w := (hm.pick [1] rfl (by decide)).pickφ [] rfl
  refine wpList_nil (qn ⟨hS, ?_⟩)
  refine wph_take (i := 5) rfl (by kernel_rfl) (by kernel_rfl) (by kernel_rfl) (fun _ _ _ h => h) rfl ht hS (wanted_plain rfl) (fun w hm => ev_assign ht rfl rfl) ?_
  intro a ht
  refine wph_take (i := 6) rfl (by kernel_rfl) (by kernel_rfl) (by kernel_rfl) (fun _ _ _ h => h) rfl ht hS (wanted_plain rfl) (fun w hm => ev_assign ht rfl rfl) ?_
  intro a ht
  refine wph_done (by kernel_rfl) ?_
  refine then_normal ?_
  refine wp_seq ?_
  refine wpr ?_
  refine wpl rfl rfl ht (ev_move ht rfl rfl) ?_
  intro a ht
  refine wpl rfl rfl ht (ev_arith ht rfl rfl rfl rfl) ?_
  intro a ht
  obtain ⟨u7, eu7, H⟩ := bind_get H
  refine wpl_make_bools rfl rfl ht hm rfl und_52 zo_4 sz1_4 by_4 rfl rfl (guardO_get eu7) ?_
  intro A6 m8 c9 a ht w hm
  refine wpl rfl rfl ht (ev_assign ht rfl rfl) ?_
  intro a ht
  refine wpList_nil ?_
  refine then_normal ?_
  refine wp_seq ?_
  refine wp_seq ?_
  refine wpr ?_
  refine wpl rfl rfl ht (ev_assign ht rfl rfl) ?_
  intro a ht
  refine wpList_nil ?_
  refine then_normal ?_
  refine wp_block ?_
  refine wpLoop (fun q a w => ∃ (ls0_1 : List Bool) (xs0_2 : Int), spec_l04Lengths.l0 q x t2 ls0_1 xs0_2 = some r ∧ q ≤ k ∧ Tm 144 [(4, .slice none 0 0), (5, .slice A3 m5 c4), (6, .int .i64 x.p), (7, .slice A6 m8 c9), (8, .int .i64 xs0_2)] a ∧ Ms X (fps []) w0 [.vec A6 c9 4 1 m8 (bools ls0_1), .vec A3 c4 2 1 m5 (ints t2), .blk b1 28 (Col.cells x)] [] w) (k0 := k) ⟨(List.replicate (w64 (x.p + 1)).toNat false), 0, H, Nat.le_refl _, ht.sub ⟨rfl, rfl, rfl, rfl, rfl, trivial⟩, (hm.pick [0, 1, 2] rfl (by decide)).pickφ [] rfl⟩ ?_
  clear H ht hm
  intro q10 a w hJ
  obtain ⟨ls0_1, xs0_2, H, hqq10, ht, hm⟩ := hJ
  cases q10 with
  | zero => cases H
  | succ q10 =>
  rw [spec_l04Lengths.l0] at H
  refine wp_seq ?_
  refine wp_seq ?_
  refine wpr ?_
  refine wpl rfl rfl ht (ev_move ht rfl rfl) ?_
  intro a ht
  refine wpl rfl rfl ht (ev_move ht rfl rfl) ?_
  intro a ht
  refine wpl rfl rfl ht (ev_cmp ht rfl rfl rfl rfl) ?_
  intro a ht
  refine wpList_nil ?_
  refine then_normal ?_
  by_cases h11 : xs0_2 < x.p
  · replace H := ite_yes h11 H
    refine wpc_yes ht rfl (decide_eq_true h11) ?_
    refine wp_skip ?_
    refine then_normal ?_
    refine wp_seq ?_
    refine wp_block ?_
    refine wp_seq ?_
    refine wpr ?_
    refine wpl rfl rfl ht (ev_move ht rfl rfl) ?_
    intro a ht
    refine wpl rfl rfl ht (ev_convert ht rfl rfl und_2 und_53) ?_
    intro a ht
    refine wpl rfl rfl ht (ev_shl ht rfl rfl rfl (wrapU_nonneg _ _ rfl)) ?_
    intro a ht
    obtain ⟨u13, eu13, H⟩ := bind_get H
    refine wpl_make_ints rfl rfl ht hm rfl und_25 zo_2 sz1_2 by_2 rfl rfl (guardO_get eu13) ?_
    intro A12 m14 c15 a ht w hm
    refine wpl rfl rfl ht (ev_assign ht rfl rfl) ?_
    intro a ht
    refine wpList_nil ?_
    refine then_normal ?_
    refine wp_seq ?_
    refine wpr ?_
    refine wpl rfl rfl ht (ev_move ht rfl rfl) ?_
    intro a ht
    refine wpl rfl rfl ht (ev_move ht rfl rfl) ?_
    intro a ht
    refine wpl rfl rfl ht (ev_convert ht rfl rfl und_2 und_53) ?_
    intro a ht
    refine wpl rfl rfl ht (ev_shl ht rfl rfl rfl (wrapU_nonneg _ _ rfl)) ?_
    intro a ht
    refine wpl rfl rfl ht (ev_move ht rfl rfl) ?_
    intro a ht
    refine wpl rfl rfl ht (ev_convert ht rfl rfl und_2 und_53) ?_
    intro a ht
    refine wpl rfl rfl ht (ev_shl ht rfl rfl rfl (wrapU_nonneg _ _ rfl)) ?_
    intro a ht
    obtain ⟨t16, et16, H⟩ := bind_get H
    refine wpl rfl rfl ht (ev_index_ints ht rfl rfl rfl so_25 (hm.vec_row 0 rfl) et16) ?_
    intro a ht
    refine wpl_store_int 0 rfl rfl ht hm rfl rfl rfl sz1_2 rfl et16 ?_
    intro a ht w hm
    refine wpList_nil ?_
    refine then_normal ?_
    refine wp_seq ?_
    refine wpr ?_
    refine wpl rfl rfl ht (ev_move ht rfl rfl) ?_
    intro a ht
    refine wpl rfl rfl ht (ev_convert ht rfl rfl und_2 und_53) ?_
    intro a ht
    refine wpl rfl rfl ht (ev_shl ht rfl rfl rfl (wrapU_nonneg _ _ rfl)) ?_
    intro a ht
    refine wpl rfl rfl ht (ev_assign ht rfl rfl) ?_
    intro a ht
    refine wpList_nil ?_
    refine then_normal ?_
    refine wp_block ?_
    refine wpLoop (fun q a w => ∃ (ls1_1 : List Int) (ls1_2 : List Bool) (xs1_3 : Int), spec_l04Lengths.l1 q x t2 xs0_2 ls1_1 ls1_2 xs1_3 = some r ∧ q ≤ q10 ∧ Tm 144 [(4, .slice none 0 0), (5, .slice A3 m5 c4), (6, .int .i64 x.p), (7, .slice A6 m8 c9), (8, .int .i64 xs0_2), (9, .slice A12 m14 c15), (25, .int .i64 xs0_2), (26, .int .i64 x.p), (27, .bool (decide (xs0_2 < x.p))), (30, .int .i64 x.p), (31, .int .u64 (wu64 x.p)), (32, .int .i64 (shlI .i64 1 (wu64 x.p))), (33, .slice A12 m14 c15), (34, .slice A12 m14 c15), (35, .int .i64 xs0_2), (36, .int .u64 (wu64 xs0_2)), (37, .int .i64 (shlI .i64 1 (wu64 xs0_2))), (38, .int .i64 xs0_2), (39, .int .u64 (wu64 xs0_2)), (40, .int .i64 (shlI .i64 1 (wu64 xs0_2))), (41, .pointer (some (eaddr A12 (shlI .i64 1 (wu64 xs0_2)).toNat 1))), (42, .int .i64 xs0_2), (43, .int .u64 (wu64 xs0_2)), (44, .int .i64 (shlI .i64 1 (wu64 xs0_2))), (10, .int .i64 xs1_3)] a ∧ Ms X (fps []) w0 [.vec A12 c15 2 1 m14 (ints ls1_1), .vec A6 c9 4 1 m8 (bools ls1_2), .vec A3 c4 2 1 m5 (ints t2), .blk b1 28 (Col.cells x)] [] w) (k0 := q10) ⟨((List.replicate (shlI .i64 1 (wu64 x.p)).toNat (0 : Int)).set (shlI .i64 1 (wu64 xs0_2)).toNat (shlI .i64 1 (wu64 xs0_2))), ls0_1, (shlI .i64 1 (wu64 xs0_2)), H, Nat.le_refl _, ht.sub ⟨rfl, rfl, rfl, rfl, rfl, rfl, rfl, rfl, rfl, rfl, rfl, rfl, rfl, rfl, rfl, rfl, rfl, rfl, rfl, rfl, rfl, rfl, rfl, rfl, rfl, trivial⟩, (hm.pick [0, 1, 2, 3] rfl (by decide)).pickφ [] rfl⟩ ?_
    clear H ht hm
    intro q17 a w hJ
    obtain ⟨ls1_1, ls1_2, xs1_3, H, hqq17, ht, hm⟩ := hJ
    cases q17 with
    | zero => cases H
    | succ q17 =>
    rw [spec_l04Lengths.l1] at H
    refine wp_seq ?_
    refine wp_seq ?_
    refine wpr ?_
    refine wpl rfl rfl ht (ev_move ht rfl rfl) ?_
    intro a ht
    refine wpl rfl rfl ht (ev_move ht rfl rfl) ?_
    intro a ht
    refine wpl rfl rfl ht (ev_len_of ht rfl rfl und_25 (hm.vec_row 0 rfl)) ?_
    intro a ht
    refine wpl rfl rfl ht (ev_cmp ht rfl rfl rfl rfl) ?_
    intro a ht
    refine wpList_nil ?_
    refine then_normal ?_
    by_cases h18 : xs1_3 < (ls1_1.length : Int)
    · replace H := ite_yes h18 H
      refine wpc_yes ht rfl (decide_eq_true h18) ?_
      refine wp_skip ?_
      refine then_normal ?_
      refine wp_seq ?_
      refine wp_block ?_
      refine wp_seq ?_
      refine wp_seq ?_
      refine wpr ?_
      refine wpl rfl rfl ht (ev_move ht rfl rfl) ?_
      intro a ht
      refine wpl rfl rfl ht (ev_move ht rfl rfl) ?_
      intro a ht
      obtain ⟨t19, et19, H⟩ := bind_get H
      refine wpl rfl rfl ht (ev_index_ints ht rfl rfl rfl so_25 (hm.vec_row 0 rfl) et19) ?_
      intro a ht
      refine wpl rfl rfl ht (ev_load ht rfl rfl sc_2 (RowAt.cell (hm.vec_row 0 rfl) (ints_get et19) rfl)) ?_
      intro a ht
      refine wpl rfl rfl ht (ev_cmp ht rfl rfl rfl rfl) ?_
      intro a ht
      refine wpList_nil ?_
      refine then_normal ?_
      by_cases h20 : t19 = 0
      · replace H := ite_yes h20 H
        refine wpc_yes ht rfl (decide_eq_true h20) ?_
        refine wp_exit ?_
        refine then_exit ?_
        refine blk_hit ?_
        refine then_normal ?_
        refine wpr ?_
        refine wpl rfl rfl ht (ev_move ht rfl rfl) ?_
        intro a ht
        refine wpl rfl rfl ht (ev_arith ht rfl rfl rfl rfl) ?_
        intro a ht
        refine wpl rfl rfl ht (ev_assign ht rfl rfl) ?_
        intro a ht
        refine wpList_nil ?_
        exact then_normal ⟨q17, by omega, ls1_1, ls1_2, (w64 (xs1_3 + 1)), H, by omega, ht.sub ⟨rfl, rfl, rfl, rfl, rfl, rfl, rfl, rfl, rfl, rfl, rfl, rfl, rfl, rfl, rfl, rfl, rfl, rfl, rfl, rfl, rfl, rfl, rfl, rfl, rfl, trivial⟩, (hm.pick [0, 1, 2, 3] rfl (by decide)).pickφ [] rfl⟩
      · replace H := ite_no h20 H
        refine wpc_no ht rfl (decide_eq_false h20) ?_
        refine wp_skip ?_
        refine then_normal ?_
        refine wp_seq ?_
        refine wpr ?_
        refine wpl rfl rfl ht (ev_move ht rfl rfl) ?_
        intro a ht
        refine wpl rfl rfl ht (ev_assign ht rfl rfl) ?_
        intro a ht
        refine wpList_nil ?_
        refine then_normal ?_
        refine wp_block ?_
        refine wpLoop (fun q a w => ∃ (ls2_1 : List Int) (ls2_2 : List Bool) (xs2_3 : Int), spec_l04Lengths.l2 q x t2 xs0_2 xs1_3 ls2_1 ls2_2 xs2_3 = some r ∧ q ≤ q17 ∧ Tm 144 [(4, .slice none 0 0), (5, .slice A3 m5 c4), (6, .int .i64 x.p), (7, .slice A6 m8 c9), (8, .int .i64 xs0_2), (9, .slice A12 m14 c15), (10, .int .i64 xs1_3), (25, .int .i64 xs0_2), (26, .int .i64 x.p), (27, .bool (decide (xs0_2 < x.p))), (30, .int .i64 x.p), (31, .int .u64 (wu64 x.p)), (32, .int .i64 (shlI .i64 1 (wu64 x.p))), (33, .slice A12 m14 c15), (34, .slice A12 m14 c15), (35, .int .i64 xs0_2), (36, .int .u64 (wu64 xs0_2)), (37, .int .i64 (shlI .i64 1 (wu64 xs0_2))), (38, .int .i64 xs0_2), (39, .int .u64 (wu64 xs0_2)), (40, .int .i64 (shlI .i64 1 (wu64 xs0_2))), (41, .pointer (some (eaddr A12 (shlI .i64 1 (wu64 xs0_2)).toNat 1))), (42, .int .i64 xs0_2), (43, .int .u64 (wu64 xs0_2)), (44, .int .i64 (shlI .i64 1 (wu64 xs0_2))), (45, .int .i64 xs1_3), (46, .slice A12 m14 c15), (47, .int .i64 (ls1_1.length : Int)), (48, .bool (decide (xs1_3 < (ls1_1.length : Int)))), (51, .slice A12 m14 c15), (52, .int .i64 xs1_3), (53, .pointer (some (eaddr A12 xs1_3.toNat 1))), (54, .int .i64 t19), (55, .bool (decide (t19 = 0))), (56, .int .i64 xs0_2), (11, .int .i64 xs2_3)] a ∧ Ms X (fps []) w0 [.vec A12 c15 2 1 m14 (ints ls2_1), .vec A6 c9 4 1 m8 (bools ls2_2), .vec A3 c4 2 1 m5 (ints t2), .blk b1 28 (Col.cells x)] [] w) (k0 := q17) ⟨ls1_1, ls1_2, xs0_2, H, Nat.le_refl _, ht.sub ⟨rfl, rfl, rfl, rfl, rfl, rfl, rfl, rfl, rfl, rfl, rfl, rfl, rfl, rfl, rfl, rfl, rfl, rfl, rfl, rfl, rfl, rfl, rfl, rfl, rfl, rfl, rfl, rfl, rfl, rfl, rfl, rfl, rfl, rfl, rfl, rfl, trivial⟩, (hm.pick [0, 1, 2, 3] rfl (by decide)).pickφ [] rfl⟩ ?_
        clear H ht hm
        intro q21 a w hJ
        obtain ⟨ls2_1, ls2_2, xs2_3, H, hqq21, ht, hm⟩ := hJ
        cases q21 with
        | zero => cases H
        | succ q21 =>
        rw [spec_l04Lengths.l2] at H
        refine wp_seq ?_
        refine wp_seq ?_
        refine wpr ?_
        refine wpl rfl rfl ht (ev_move ht rfl rfl) ?_
        intro a ht
        refine wpl rfl rfl ht (ev_move ht rfl rfl) ?_
        intro a ht
        refine wpl rfl rfl ht (ev_cmp ht rfl rfl rfl rfl) ?_
        intro a ht
        refine wpList_nil ?_
        refine then_normal ?_
        by_cases h22 : xs2_3 < x.p
        · replace H := ite_yes h22 H
          refine wpc_yes ht rfl (decide_eq_true h22) ?_
          refine wp_skip ?_
          refine then_normal ?_
          refine wp_seq ?_
          refine wp_block ?_
          refine wp_seq ?_
          refine wp_seq ?_
          refine wpr ?_
          refine wpl rfl rfl ht (ev_move ht rfl rfl) ?_
          intro a ht
          refine wpl rfl rfl ht (ev_move ht rfl rfl) ?_
          intro a ht
          obtain ⟨t23, et23, H⟩ := bind_get H
          refine wpl rfl rfl ht (ev_index_ints ht rfl rfl rfl so_25 (hm.vec_row 0 rfl) et23) ?_
          intro a ht
          refine wpl rfl rfl ht (ev_load ht rfl rfl sc_2 (RowAt.cell (hm.vec_row 0 rfl) (ints_get et23) rfl)) ?_
          intro a ht
          refine wpl rfl rfl ht (ev_move ht rfl rfl) ?_
          intro a ht
          refine wpl rfl rfl ht (ev_convert ht rfl rfl und_2 und_53) ?_
          intro a ht
          refine wpl rfl rfl ht (ev_shr ht rfl rfl rfl (wrapU_nonneg _ _ rfl)) ?_
          intro a ht
          refine wpl rfl rfl ht (ev_bit ht rfl rfl rfl rfl) ?_
          intro a ht
          refine wpl rfl rfl ht (ev_cmp ht rfl rfl rfl rfl) ?_
          intro a ht
          refine wpList_nil ?_
          refine then_normal ?_
          by_cases h24 : (bitop .and .i64 (shrI .i64 t23 (wu64 xs2_3)) 1) = 0
          · replace H := ite_yes h24 H
            refine wpc_yes ht rfl (decide_eq_true h24) ?_
            refine wp_exit ?_
            refine then_exit ?_
            refine blk_hit ?_
            refine then_normal ?_
            refine wpr ?_
            refine wpl rfl rfl ht (ev_move ht rfl rfl) ?_
            intro a ht
            refine wpl rfl rfl ht (ev_arith ht rfl rfl rfl rfl) ?_
            intro a ht
            refine wpl rfl rfl ht (ev_assign ht rfl rfl) ?_
            intro a ht
            refine wpList_nil ?_
            exact then_normal ⟨q21, by omega, ls2_1, ls2_2, (w64 (xs2_3 + 1)), H, by omega, ht.sub ⟨rfl, rfl, rfl, rfl, rfl, rfl, rfl, rfl, rfl, rfl, rfl, rfl, rfl, rfl, rfl, rfl, rfl, rfl, rfl, rfl, rfl, rfl, rfl, rfl, rfl, rfl, rfl, rfl, rfl, rfl, rfl, rfl, rfl, rfl, rfl, rfl, trivial⟩, (hm.pick [0, 1, 2, 3] rfl (by decide)).pickφ [] rfl⟩
          · replace H := ite_no h24 H
            refine wpc_no ht rfl (decide_eq_false h24) ?_
            refine wp_skip ?_
            refine then_normal ?_
            refine wp_seq ?_
            refine wp_seq ?_
            refine wpr ?_
            refine wpl rfl rfl ht (ev_move ht rfl rfl) ?_
            intro a ht
            obtain ⟨t25, et25, H⟩ := bind_get H
            have hcall := spec_l01Ones.calls q21 _ _ xs1_3 _ ((fun (hq : Ms _ _ _ ([] ++ [.vec A12 c15 2 1 m14 (ints ls2_1), .vec A6 c9 4 1 m8 (bools ls2_2), .vec A3 c4 2 1 m5 (ints t2), .blk b1 28 (Col.cells x)]) _ _) => hq.lend (φp := []) (allRO_nil)) (hm.pick (own' := [] ++ [.vec A12 c15 2 1 m14 (ints ls2_1), .vec A6 c9 4 1 m8 (bools ls2_2), .vec A3 c4 2 1 m5 (ints t2), .blk b1 28 (Col.cells x)]) [0, 1, 2, 3] rfl (by decide))) et25
            refine wpl_call _ rfl rfl ht rfl rfl rfl rfl can_37 hcall ?_
            clear hcall
            rintro _ w ⟨rfl, hpost⟩ a ht
            replace hm := (hm.pick (own' := [] ++ [.vec A12 c15 2 1 m14 (ints ls2_1), .vec A6 c9 4 1 m8 (bools ls2_2), .vec A3 c4 2 1 m5 (ints t2), .blk b1 28 (Col.cells x)]) [0, 1, 2, 3] rfl (by decide)).backL hpost
            clear hpost
            refine wpl rfl rfl ht (ev_assign ht rfl rfl) ?_
            intro a ht
            refine wpList_nil ?_
            refine then_normal ?_
            refine wp_seq ?_
            refine wpr ?_
            refine wpl rfl rfl ht (ev_move ht rfl rfl) ?_
            intro a ht
            refine wpl rfl rfl ht (ev_cmp ht rfl rfl rfl rfl) ?_
            intro a ht
            refine wpl rfl rfl ht (ev_move ht rfl rfl) ?_
            intro a ht
            by_cases h26 : t25 > 2
            · replace H := ite_yes h26 H
              refine wpl_yes rfl ht rfl ((decide_eq_true h26)) ?_
              refine wpl rfl rfl ht (ev_move ht rfl rfl) ?_
              intro a ht
              refine wpl_yes rfl ht rfl ((decide_eq_true h26)) ?_
              refine wpl rfl rfl ht (ev_move ht rfl rfl) ?_
              intro a ht
              refine wpl_yes rfl ht rfl ((decide_eq_true h26)) ?_
              obtain ⟨t27, et27, H⟩ := bind_get H
              refine wpl rfl rfl ht (ev_index_ints ht rfl rfl rfl so_25 (hm.vec_row 2 rfl) et27) ?_
              intro a ht
              refine wpl_yes rfl ht rfl ((decide_eq_true h26)) ?_
              refine wpl rfl rfl ht (ev_load ht rfl rfl sc_2 (RowAt.cell (hm.vec_row 2 rfl) (ints_get et27) rfl)) ?_
              intro a ht
              refine wpl_yes rfl ht rfl ((decide_eq_true h26)) ?_
              refine wpl rfl rfl ht (ev_move ht rfl rfl) ?_
              intro a ht
              refine wpl_yes rfl ht rfl ((decide_eq_true h26)) ?_
              refine wpl rfl rfl ht (ev_convert ht rfl rfl und_2 und_53) ?_
              intro a ht
              refine wpl_yes rfl ht rfl ((decide_eq_true h26)) ?_
              refine wpl rfl rfl ht (ev_shr ht rfl rfl rfl (wrapU_nonneg _ _ rfl)) ?_
              intro a ht
              refine wpl_yes rfl ht rfl ((decide_eq_true h26)) ?_
              refine wpl rfl rfl ht (ev_bit ht rfl rfl rfl rfl) ?_
              intro a ht
              refine wpl_yes rfl ht rfl ((decide_eq_true h26)) ?_
              refine wpl rfl rfl ht (ev_cmp ht rfl rfl rfl rfl) ?_
              intro a ht
              refine wpl rfl rfl ht (ev_pick_yes ht rfl rfl (decide_eq_true h26) rfl) ?_
              intro a ht
              refine wpList_nil ?_
              refine then_normal ?_
              by_cases h28 : (bitop .and .i64 (shrI .i64 t27 (wu64 xs0_2)) 1) = 1
              · replace H := ite_yes h28 H
                refine wpc_yes ht rfl (decide_eq_true h28) ?_
                refine wpr ?_
                refine wpl rfl rfl ht (ev_move ht rfl rfl) ?_
                intro a ht
                refine wpl rfl rfl ht (ev_move ht rfl rfl) ?_
                intro a ht
                obtain ⟨b29, eb29, H⟩ := bind_get H
                refine wpl rfl rfl ht (ev_index_bools ht rfl rfl rfl so_52 (hm.vec_row 1 rfl) eb29) ?_
                intro a ht
                refine wpl_store_bool 1 rfl rfl ht hm rfl rfl rfl sz1_4 rfl eb29 ?_
                intro a ht w hm
                refine wpList_nil ?_
                refine then_normal ?_
                refine wp_seq ?_
                refine wpr ?_
                refine wpl rfl rfl ht (ev_move ht rfl rfl) ?_
                intro a ht
                refine wpl rfl rfl ht (ev_arith ht rfl rfl rfl rfl) ?_
                intro a ht
                refine wpl rfl rfl ht (ev_assign ht rfl rfl) ?_
                intro a ht
                refine wpList_nil ?_
                refine then_normal ?_
                refine wp_block ?_
                refine wpLoop (fun q a w => ∃ (ls3_1 : List Int) (xs3_2 : Int), spec_l04Lengths.l3 q x t2 xs0_2 xs1_3 ls2_2 xs2_3 t25 ls3_1 xs3_2 = some r ∧ q ≤ q21 ∧ Tm 144 [(4, .slice none 0 0), (5, .slice A3 m5 c4), (6, .int .i64 x.p), (7, .slice A6 m8 c9), (8, .int .i64 xs0_2), (9, .slice A12 m14 c15), (10, .int .i64 xs1_3), (11, .int .i64 xs2_3), (12, .int .i64 t25), (25, .int .i64 xs0_2), (26, .int .i64 x.p), (27, .bool (decide (xs0_2 < x.p))), (30, .int .i64 x.p), (31, .int .u64 (wu64 x.p)), (32, .int .i64 (shlI .i64 1 (wu64 x.p))), (33, .slice A12 m14 c15), (34, .slice A12 m14 c15), (35, .int .i64 xs0_2), (36, .int .u64 (wu64 xs0_2)), (37, .int .i64 (shlI .i64 1 (wu64 xs0_2))), (38, .int .i64 xs0_2), (39, .int .u64 (wu64 xs0_2)), (40, .int .i64 (shlI .i64 1 (wu64 xs0_2))), (41, .pointer (some (eaddr A12 (shlI .i64 1 (wu64 xs0_2)).toNat 1))), (42, .int .i64 xs0_2), (43, .int .u64 (wu64 xs0_2)), (44, .int .i64 (shlI .i64 1 (wu64 xs0_2))), (45, .int .i64 xs1_3), (46, .slice A12 m14 c15), (47, .int .i64 (ls1_1.length : Int)), (48, .bool (decide (xs1_3 < (ls1_1.length : Int)))), (51, .slice A12 m14 c15), (52, .int .i64 xs1_3), (53, .pointer (some (eaddr A12 xs1_3.toNat 1))), (54, .int .i64 t19), (55, .bool (decide (t19 = 0))), (56, .int .i64 xs0_2), (57, .int .i64 xs2_3), (58, .int .i64 x.p), (59, .bool (decide (xs2_3 < x.p))), (62, .slice A12 m14 c15), (63, .int .i64 xs1_3), (64, .pointer (some (eaddr A12 xs1_3.toNat 1))), (65, .int .i64 t23), (66, .int .i64 xs2_3), (67, .int .u64 (wu64 xs2_3)), (68, .int .i64 (shrI .i64 t23 (wu64 xs2_3))), (69, .int .i64 (bitop .and .i64 (shrI .i64 t23 (wu64 xs2_3)) 1)), (70, .bool (decide ((bitop .and .i64 (shrI .i64 t23 (wu64 xs2_3)) 1) = 0))), (71, .int .i64 xs1_3), (72, .int .i64 t25), (73, .int .i64 t25), (74, .bool (decide (t25 > 2))), (75, .bool (decide (t25 > 2))), (76, .slice A3 m5 c4), (77, .int .i64 xs2_3), (78, .pointer (some (eaddr A3 xs2_3.toNat 1))), (79, .int .i64 t27), (80, .int .i64 xs0_2), (81, .int .u64 (wu64 xs0_2)), (82, .int .i64 (shrI .i64 t27 (wu64 xs0_2))), (83, .int .i64 (bitop .and .i64 (shrI .i64 t27 (wu64 xs0_2)) 1)), (84, .bool (decide ((bitop .and .i64 (shrI .i64 t27 (wu64 xs0_2)) 1) = 1))), (85, .bool (decide ((bitop .and .i64 (shrI .i64 t27 (wu64 xs0_2)) 1) = 1))), (86, .slice A6 m8 c9), (87, .int .i64 t25), (88, .pointer (some (eaddr A6 t25.toNat 1))), (89, .int .i64 xs0_2), (90, .int .i64 (w64 (xs0_2 + 1))), (13, .int .i64 xs3_2)] a ∧ Ms X (fps []) w0 [.vec A12 c15 2 1 m14 (ints ls3_1), .vec A6 c9 4 1 m8 (bools (ls2_2.set t25.toNat true)), .vec A3 c4 2 1 m5 (ints t2), .blk b1 28 (Col.cells x)] [] w) (k0 := q21) ⟨ls2_1, (w64 (xs0_2 + 1)), H, Nat.le_refl _, ht.sub ⟨rfl, rfl, rfl, rfl, rfl, rfl, rfl, rfl, rfl, rfl, rfl, rfl, rfl, rfl, rfl, rfl, rfl, rfl, rfl, rfl, rfl, rfl, rfl, rfl, rfl, rfl, rfl, rfl, rfl, rfl, rfl, rfl, rfl, rfl, rfl, rfl, rfl, rfl, rfl, rfl, rfl, rfl, rfl, rfl, rfl, rfl, rfl, rfl, rfl, rfl, rfl, rfl, rfl, rfl, rfl, rfl, rfl, rfl, rfl, rfl, rfl, rfl, rfl, rfl, rfl, rfl, rfl, rfl, rfl, rfl, trivial⟩, (hm.pick [0, 1, 2, 3] rfl (by decide)).pickφ [] rfl⟩ ?_
                clear H ht hm
                intro q30 a w hJ
                obtain ⟨ls3_1, xs3_2, H, hqq30, ht, hm⟩ := hJ
                cases q30 with
                | zero => cases H
                | succ q30 =>
                rw [spec_l04Lengths.l3] at H
                refine wp_seq ?_
                refine wp_seq ?_
                refine wpr ?_
                refine wpl rfl rfl ht (ev_move ht rfl rfl) ?_
                intro a ht
                refine wpl rfl rfl ht (ev_move ht rfl rfl) ?_
                intro a ht
                refine wpl rfl rfl ht (ev_cmp ht rfl rfl rfl rfl) ?_
                intro a ht
                refine wpList_nil ?_
                refine then_normal ?_
                by_cases h31 : xs3_2 < x.p
                · replace H := ite_yes h31 H
                  refine wpc_yes ht rfl (decide_eq_true h31) ?_
                  refine wp_skip ?_
                  refine then_normal ?_
                  refine wp_seq ?_
                  refine wp_block ?_
                  refine wp_seq ?_
                  refine wpr ?_
                  refine wpl rfl rfl ht (ev_move ht rfl rfl) ?_
                  intro a ht
                  refine wpl rfl rfl ht (ev_move ht rfl rfl) ?_
                  intro a ht
                  obtain ⟨t32, et32, H⟩ := bind_get H
                  refine wpl rfl rfl ht (ev_index_ints ht rfl rfl rfl so_25 (hm.vec_row 2 rfl) et32) ?_
                  intro a ht
                  refine wpl rfl rfl ht (ev_load ht rfl rfl sc_2 (RowAt.cell (hm.vec_row 2 rfl) (ints_get et32) rfl)) ?_
                  intro a ht
                  refine wpl rfl rfl ht (ev_move ht rfl rfl) ?_
                  intro a ht
                  refine wpl rfl rfl ht (ev_convert ht rfl rfl und_2 und_53) ?_
                  intro a ht
                  refine wpl rfl rfl ht (ev_shr ht rfl rfl rfl (wrapU_nonneg _ _ rfl)) ?_
                  intro a ht
                  refine wpl rfl rfl ht (ev_bit ht rfl rfl rfl rfl) ?_
                  intro a ht
                  refine wpl rfl rfl ht (ev_cmp ht rfl rfl rfl rfl) ?_
                  intro a ht
                  refine wpl rfl rfl ht (ev_move ht rfl rfl) ?_
                  intro a ht
                  by_cases h33 : (bitop .and .i64 (shrI .i64 t32 (wu64 xs3_2)) 1) = 1
                  · replace H := ite_yes h33 H
                    refine wpl_yes rfl ht rfl ((decide_eq_true h33)) ?_
                    refine wpl rfl rfl ht (ev_move ht rfl rfl) ?_
                    intro a ht
                    refine wpl_yes rfl ht rfl ((decide_eq_true h33)) ?_
                    refine wpl rfl rfl ht (ev_move ht rfl rfl) ?_
                    intro a ht
                    refine wpl_yes rfl ht rfl ((decide_eq_true h33)) ?_
                    refine wpl rfl rfl ht (ev_convert ht rfl rfl und_2 und_53) ?_
                    intro a ht
                    refine wpl_yes rfl ht rfl ((decide_eq_true h33)) ?_
                    refine wpl rfl rfl ht (ev_shr ht rfl rfl rfl (wrapU_nonneg _ _ rfl)) ?_
                    intro a ht
                    refine wpl_yes rfl ht rfl ((decide_eq_true h33)) ?_
                    refine wpl rfl rfl ht (ev_bit ht rfl rfl rfl rfl) ?_
                    intro a ht
                    refine wpl_yes rfl ht rfl ((decide_eq_true h33)) ?_
                    refine wpl rfl rfl ht (ev_cmp ht rfl rfl rfl rfl) ?_
                    intro a ht
                    refine wpl rfl rfl ht (ev_pick_yes ht rfl rfl (decide_eq_true h33) rfl) ?_
                    intro a ht
                    refine wpList_nil ?_
                    refine then_normal ?_
                    by_cases h34 : (bitop .and .i64 (shrI .i64 xs1_3 (wu64 xs3_2)) 1) = 0
                    · replace H := ite_yes h34 H
                      refine wpc_yes ht rfl (decide_eq_true h34) ?_
                      refine wp_seq ?_
                      refine wpr ?_
                      refine wpl rfl rfl ht (ev_move ht rfl rfl) ?_
                      intro a ht
                      refine wpl rfl rfl ht (ev_move ht rfl rfl) ?_
                      intro a ht
                      refine wpl rfl rfl ht (ev_convert ht rfl rfl und_2 und_53) ?_
                      intro a ht
                      refine wpl rfl rfl ht (ev_shl ht rfl rfl rfl (wrapU_nonneg _ _ rfl)) ?_
                      intro a ht
                      refine wpl rfl rfl ht (ev_bit ht rfl rfl rfl rfl) ?_
                      intro a ht
                      refine wpl rfl rfl ht (ev_assign ht rfl rfl) ?_
                      intro a ht
                      refine wpList_nil ?_
                      refine then_normal ?_
                      refine wpr ?_
                      refine wpl rfl rfl ht (ev_move ht rfl rfl) ?_
                      intro a ht
                      refine wpl rfl rfl ht (ev_move ht rfl rfl) ?_
                      intro a ht
                      refine wpl rfl rfl ht (ev_move ht rfl rfl) ?_
                      intro a ht
                      refine wpl rfl rfl ht (ev_move ht rfl rfl) ?_
                      intro a ht
                      obtain ⟨t35, et35, H⟩ := bind_get H
                      refine wpl rfl rfl ht (ev_index_ints ht rfl rfl rfl so_25 (hm.vec_row 0 rfl) et35) ?_
                      intro a ht
                      refine wpl rfl rfl ht (ev_load ht rfl rfl sc_2 (RowAt.cell (hm.vec_row 0 rfl) (ints_get et35) rfl)) ?_
                      intro a ht
                      refine wpl rfl rfl ht (ev_move ht rfl rfl) ?_
                      intro a ht
                      refine wpl rfl rfl ht (ev_convert ht rfl rfl und_2 und_53) ?_
                      intro a ht
                      refine wpl rfl rfl ht (ev_shl ht rfl rfl rfl (wrapU_nonneg _ _ rfl)) ?_
                      intro a ht
                      refine wpl rfl rfl ht (ev_bit ht rfl rfl rfl rfl) ?_
                      intro a ht
                      obtain ⟨t36, et36, H⟩ := bind_get H
                      refine wpl rfl rfl ht (ev_index_ints ht rfl rfl rfl so_25 (hm.vec_row 0 rfl) et36) ?_
                      intro a ht
                      refine wpl_store_int 0 rfl rfl ht hm rfl rfl rfl sz1_2 rfl et36 ?_
                      intro a ht w hm
                      refine wpList_nil ?_
                      refine blk_normal ?_
                      refine then_normal ?_
                      refine wpr ?_
                      refine wpl rfl rfl ht (ev_move ht rfl rfl) ?_
                      intro a ht
                      refine wpl rfl rfl ht (ev_arith ht rfl rfl rfl rfl) ?_
                      intro a ht
                      refine wpl rfl rfl ht (ev_assign ht rfl rfl) ?_
                      intro a ht
                      refine wpList_nil ?_
                      exact then_normal ⟨q30, by omega, (ls3_1.set (bitop .or .i64 xs1_3 (shlI .i64 1 (wu64 xs3_2))).toNat (bitop .or .i64 t35 (shlI .i64 1 (wu64 xs3_2)))), (w64 (xs3_2 + 1)), H, by omega, ht.sub ⟨rfl, rfl, rfl, rfl, rfl, rfl, rfl, rfl, rfl, rfl, rfl, rfl, rfl, rfl, rfl, rfl, rfl, rfl, rfl, rfl, rfl, rfl, rfl, rfl, rfl, rfl, rfl, rfl, rfl, rfl, rfl, rfl, rfl, rfl, rfl, rfl, rfl, rfl, rfl, rfl, rfl, rfl, rfl, rfl, rfl, rfl, rfl, rfl, rfl, rfl, rfl, rfl, rfl, rfl, rfl, rfl, rfl, rfl, rfl, rfl, rfl, rfl, rfl, rfl, rfl, rfl, rfl, rfl, rfl, rfl, trivial⟩, (hm.pick [0, 1, 2, 3] rfl (by decide)).pickφ [] rfl⟩
                    · replace H := ite_no h34 H
                      refine wpc_no ht rfl (decide_eq_false h34) ?_
                      refine wp_skip ?_
                      refine blk_normal ?_
                      refine then_normal ?_
                      refine wpr ?_
                      refine wpl rfl rfl ht (ev_move ht rfl rfl) ?_
                      intro a ht
                      refine wpl rfl rfl ht (ev_arith ht rfl rfl rfl rfl) ?_
                      intro a ht
                      refine wpl rfl rfl ht (ev_assign ht rfl rfl) ?_
                      intro a ht
                      refine wpList_nil ?_
                      exact then_normal ⟨q30, by omega, ls3_1, (w64 (xs3_2 + 1)), H, by omega, ht.sub ⟨rfl, rfl, rfl, rfl, rfl, rfl, rfl, rfl, rfl, rfl, rfl, rfl, rfl, rfl, rfl, rfl, rfl, rfl, rfl, rfl, rfl, rfl, rfl, rfl, rfl, rfl, rfl, rfl, rfl, rfl, rfl, rfl, rfl, rfl, rfl, rfl, rfl, rfl, rfl, rfl, rfl, rfl, rfl, rfl, rfl, rfl, rfl, rfl, rfl, rfl, rfl, rfl, rfl, rfl, rfl, rfl, rfl, rfl, rfl, rfl, rfl, rfl, rfl, rfl, rfl, rfl, rfl, rfl, rfl, rfl, trivial⟩, (hm.pick [0, 1, 2, 3] rfl (by decide)).pickφ [] rfl⟩
                  · replace H := ite_no h33 H
                    refine wpl_no rfl rfl ht rfl (by rw [(decide_eq_false h33)]; decide) ?_
                    intro a ht
                    refine wpl_no rfl rfl ht rfl (by rw [(decide_eq_false h33)]; decide) ?_
                    intro a ht
                    refine wpl_no rfl rfl ht rfl (by rw [(decide_eq_false h33)]; decide) ?_
                    intro a ht
                    refine wpl_no rfl rfl ht rfl (by rw [(decide_eq_false h33)]; decide) ?_
                    intro a ht
                    refine wpl_no rfl rfl ht rfl (by rw [(decide_eq_false h33)]; decide) ?_
                    intro a ht
                    refine wpl_no rfl rfl ht rfl (by rw [(decide_eq_false h33)]; decide) ?_
                    intro a ht
                    refine wpl rfl rfl ht (ev_pick_no ht rfl rfl (decide_eq_false h33) rfl) ?_
                    intro a ht
                    refine wpList_nil ?_
                    refine then_normal ?_
                    refine wpc_no ht rfl rfl ?_
                    refine wp_skip ?_
                    refine blk_normal ?_
                    refine then_normal ?_
                    refine wpr ?_
                    refine wpl rfl rfl ht (ev_move ht rfl rfl) ?_
                    intro a ht
                    refine wpl rfl rfl ht (ev_arith ht rfl rfl rfl rfl) ?_
                    intro a ht
                    refine wpl rfl rfl ht (ev_assign ht rfl rfl) ?_
                    intro a ht
                    refine wpList_nil ?_
                    exact then_normal ⟨q30, by omega, ls3_1, (w64 (xs3_2 + 1)), H, by omega, ht.sub ⟨rfl, rfl, rfl, rfl, rfl, rfl, rfl, rfl, rfl, rfl, rfl, rfl, rfl, rfl, rfl, rfl, rfl, rfl, rfl, rfl, rfl, rfl, rfl, rfl, rfl, rfl, rfl, rfl, rfl, rfl, rfl, rfl, rfl, rfl, rfl, rfl, rfl, rfl, rfl, rfl, rfl, rfl, rfl, rfl, rfl, rfl, rfl, rfl, rfl, rfl, rfl, rfl, rfl, rfl, rfl, rfl, rfl, rfl, rfl, rfl, rfl, rfl, rfl, rfl, rfl, rfl, rfl, rfl, rfl, rfl, trivial⟩, (hm.pick [0, 1, 2, 3] rfl (by decide)).pickφ [] rfl⟩
                · replace H := ite_no h31 H
                  refine wpc_no ht rfl (decide_eq_false h31) ?_
                  refine wp_exit ?_
                  refine then_exit ?_
                  refine then_exit ?_
                  refine blk_hit ?_
                  refine blk_normal ?_
                  refine then_normal ?_
                  refine wpr ?_
                  refine wpl rfl rfl ht (ev_move ht rfl rfl) ?_
                  intro a ht
                  refine wpl rfl rfl ht (ev_arith ht rfl rfl rfl rfl) ?_
                  intro a ht
                  refine wpl rfl rfl ht (ev_assign ht rfl rfl) ?_
                  intro a ht
                  refine wpList_nil ?_
                  exact then_normal ⟨q30, by omega, ls3_1, (ls2_2.set t25.toNat true), (w64 (xs2_3 + 1)), H, by omega, ht.sub ⟨rfl, rfl, rfl, rfl, rfl, rfl, rfl, rfl, rfl, rfl, rfl, rfl, rfl, rfl, rfl, rfl, rfl, rfl, rfl, rfl, rfl, rfl, rfl, rfl, rfl, rfl, rfl, rfl, rfl, rfl, rfl, rfl, rfl, rfl, rfl, rfl, trivial⟩, (hm.pick [0, 1, 2, 3] rfl (by decide)).pickφ [] rfl⟩
              · replace H := ite_no h28 H
                refine wpc_no ht rfl (decide_eq_false h28) ?_
                refine wp_skip ?_
                refine then_normal ?_
                refine wp_seq ?_
                refine wpr ?_
                refine wpl rfl rfl ht (ev_move ht rfl rfl) ?_
                intro a ht
                refine wpl rfl rfl ht (ev_arith ht rfl rfl rfl rfl) ?_
                intro a ht
                refine wpl rfl rfl ht (ev_assign ht rfl rfl) ?_
                intro a ht
                refine wpList_nil ?_
                refine then_normal ?_
                refine wp_block ?_
                refine wpLoop (fun q a w => ∃ (ls4_1 : List Int) (xs4_2 : Int), spec_l04Lengths.l4 q x t2 xs0_2 xs1_3 ls2_2 xs2_3 ls4_1 xs4_2 = some r ∧ q ≤ q21 ∧ Tm 144 [(4, .slice none 0 0), (5, .slice A3 m5 c4), (6, .int .i64 x.p), (7, .slice A6 m8 c9), (8, .int .i64 xs0_2), (9, .slice A12 m14 c15), (10, .int .i64 xs1_3), (11, .int .i64 xs2_3), (12, .int .i64 t25), (25, .int .i64 xs0_2), (26, .int .i64 x.p), (27, .bool (decide (xs0_2 < x.p))), (30, .int .i64 x.p), (31, .int .u64 (wu64 x.p)), (32, .int .i64 (shlI .i64 1 (wu64 x.p))), (33, .slice A12 m14 c15), (34, .slice A12 m14 c15), (35, .int .i64 xs0_2), (36, .int .u64 (wu64 xs0_2)), (37, .int .i64 (shlI .i64 1 (wu64 xs0_2))), (38, .int .i64 xs0_2), (39, .int .u64 (wu64 xs0_2)), (40, .int .i64 (shlI .i64 1 (wu64 xs0_2))), (41, .pointer (some (eaddr A12 (shlI .i64 1 (wu64 xs0_2)).toNat 1))), (42, .int .i64 xs0_2), (43, .int .u64 (wu64 xs0_2)), (44, .int .i64 (shlI .i64 1 (wu64 xs0_2))), (45, .int .i64 xs1_3), (46, .slice A12 m14 c15), (47, .int .i64 (ls1_1.length : Int)), (48, .bool (decide (xs1_3 < (ls1_1.length : Int)))), (51, .slice A12 m14 c15), (52, .int .i64 xs1_3), (53, .pointer (some (eaddr A12 xs1_3.toNat 1))), (54, .int .i64 t19), (55, .bool (decide (t19 = 0))), (56, .int .i64 xs0_2), (57, .int .i64 xs2_3), (58, .int .i64 x.p), (59, .bool (decide (xs2_3 < x.p))), (62, .slice A12 m14 c15), (63, .int .i64 xs1_3), (64, .pointer (some (eaddr A12 xs1_3.toNat 1))), (65, .int .i64 t23), (66, .int .i64 xs2_3), (67, .int .u64 (wu64 xs2_3)), (68, .int .i64 (shrI .i64 t23 (wu64 xs2_3))), (69, .int .i64 (bitop .and .i64 (shrI .i64 t23 (wu64 xs2_3)) 1)), (70, .bool (decide ((bitop .and .i64 (shrI .i64 t23 (wu64 xs2_3)) 1) = 0))), (71, .int .i64 xs1_3), (72, .int .i64 t25), (73, .int .i64 t25), (74, .bool (decide (t25 > 2))), (75, .bool (decide (t25 > 2))), (76, .slice A3 m5 c4), (77, .int .i64 xs2_3), (78, .pointer (some (eaddr A3 xs2_3.toNat 1))), (79, .int .i64 t27), (80, .int .i64 xs0_2), (81, .int .u64 (wu64 xs0_2)), (82, .int .i64 (shrI .i64 t27 (wu64 xs0_2))), (83, .int .i64 (bitop .and .i64 (shrI .i64 t27 (wu64 xs0_2)) 1)), (84, .bool (decide ((bitop .and .i64 (shrI .i64 t27 (wu64 xs0_2)) 1) = 1))), (85, .bool (decide ((bitop .and .i64 (shrI .i64 t27 (wu64 xs0_2)) 1) = 1))), (89, .int .i64 xs0_2), (90, .int .i64 (w64 (xs0_2 + 1))), (13, .int .i64 xs4_2)] a ∧ Ms X (fps []) w0 [.vec A12 c15 2 1 m14 (ints ls4_1), .vec A6 c9 4 1 m8 (bools ls2_2), .vec A3 c4 2 1 m5 (ints t2), .blk b1 28 (Col.cells x)] [] w) (k0 := q21) ⟨ls2_1, (w64 (xs0_2 + 1)), H, Nat.le_refl _, ht.sub ⟨rfl, rfl, rfl, rfl, rfl, rfl, rfl, rfl, rfl, rfl, rfl, rfl, rfl, rfl, rfl, rfl, rfl, rfl, rfl, rfl, rfl, rfl, rfl, rfl, rfl, rfl, rfl, rfl, rfl, rfl, rfl, rfl, rfl, rfl, rfl, rfl, rfl, rfl, rfl, rfl, rfl, rfl, rfl, rfl, rfl, rfl, rfl, rfl, rfl, rfl, rfl, rfl, rfl, rfl, rfl, rfl, rfl, rfl, rfl, rfl, rfl, rfl, rfl, rfl, rfl, rfl, rfl, trivial⟩, (hm.pick [0, 1, 2, 3] rfl (by decide)).pickφ [] rfl⟩ ?_
                clear H ht hm
                intro q37 a w hJ
                obtain ⟨ls4_1, xs4_2, H, hqq37, ht, hm⟩ := hJ
                cases q37 with
                | zero => cases H
                | succ q37 =>
                rw [spec_l04Lengths.l4] at H
                refine wp_seq ?_
                refine wp_seq ?_
                refine wpr ?_
                refine wpl rfl rfl ht (ev_move ht rfl rfl) ?_
                intro a ht
                refine wpl rfl rfl ht (ev_move ht rfl rfl) ?_
                intro a ht
                refine wpl rfl rfl ht (ev_cmp ht rfl rfl rfl rfl) ?_
                intro a ht
                refine wpList_nil ?_
                refine then_normal ?_
                by_cases h38 : xs4_2 < x.p
                · replace H := ite_yes h38 H
                  refine wpc_yes ht rfl (decide_eq_true h38) ?_
                  refine wp_skip ?_
                  refine then_normal ?_
                  refine wp_seq ?_
                  refine wp_block ?_
                  refine wp_seq ?_
                  refine wpr ?_
                  refine wpl rfl rfl ht (ev_move ht rfl rfl) ?_
                  intro a ht
                  refine wpl rfl rfl ht (ev_move ht rfl rfl) ?_
                  intro a ht
                  obtain ⟨t39, et39, H⟩ := bind_get H
                  refine wpl rfl rfl ht (ev_index_ints ht rfl rfl rfl so_25 (hm.vec_row 2 rfl) et39) ?_
                  intro a ht
                  refine wpl rfl rfl ht (ev_load ht rfl rfl sc_2 (RowAt.cell (hm.vec_row 2 rfl) (ints_get et39) rfl)) ?_
                  intro a ht
                  refine wpl rfl rfl ht (ev_move ht rfl rfl) ?_
                  intro a ht
                  refine wpl rfl rfl ht (ev_convert ht rfl rfl und_2 und_53) ?_
                  intro a ht
                  refine wpl rfl rfl ht (ev_shr ht rfl rfl rfl (wrapU_nonneg _ _ rfl)) ?_
                  intro a ht
                  refine wpl rfl rfl ht (ev_bit ht rfl rfl rfl rfl) ?_
                  intro a ht
                  refine wpl rfl rfl ht (ev_cmp ht rfl rfl rfl rfl) ?_
                  intro a ht
                  refine wpl rfl rfl ht (ev_move ht rfl rfl) ?_
                  intro a ht
                  by_cases h40 : (bitop .and .i64 (shrI .i64 t39 (wu64 xs4_2)) 1) = 1
                  · replace H := ite_yes h40 H
                    refine wpl_yes rfl ht rfl ((decide_eq_true h40)) ?_
                    refine wpl rfl rfl ht (ev_move ht rfl rfl) ?_
                    intro a ht
                    refine wpl_yes rfl ht rfl ((decide_eq_true h40)) ?_
                    refine wpl rfl rfl ht (ev_move ht rfl rfl) ?_
                    intro a ht
                    refine wpl_yes rfl ht rfl ((decide_eq_true h40)) ?_
                    refine wpl rfl rfl ht (ev_convert ht rfl rfl und_2 und_53) ?_
                    intro a ht
                    refine wpl_yes rfl ht rfl ((decide_eq_true h40)) ?_
                    refine wpl rfl rfl ht (ev_shr ht rfl rfl rfl (wrapU_nonneg _ _ rfl)) ?_
                    intro a ht
                    refine wpl_yes rfl ht rfl ((decide_eq_true h40)) ?_
                    refine wpl rfl rfl ht (ev_bit ht rfl rfl rfl rfl) ?_
                    intro a ht
                    refine wpl_yes rfl ht rfl ((decide_eq_true h40)) ?_
                    refine wpl rfl rfl ht (ev_cmp ht rfl rfl rfl rfl) ?_
                    intro a ht
                    refine wpl rfl rfl ht (ev_pick_yes ht rfl rfl (decide_eq_true h40) rfl) ?_
                    intro a ht
                    refine wpList_nil ?_
                    refine then_normal ?_
                    by_cases h41 : (bitop .and .i64 (shrI .i64 xs1_3 (wu64 xs4_2)) 1) = 0
                    · replace H := ite_yes h41 H
                      refine wpc_yes ht rfl (decide_eq_true h41) ?_
                      refine wp_seq ?_
                      refine wpr ?_
                      refine wpl rfl rfl ht (ev_move ht rfl rfl) ?_
                      intro a ht
                      refine wpl rfl rfl ht (ev_move ht rfl rfl) ?_
                      intro a ht
                      refine wpl rfl rfl ht (ev_convert ht rfl rfl und_2 und_53) ?_
                      intro a ht
                      refine wpl rfl rfl ht (ev_shl ht rfl rfl rfl (wrapU_nonneg _ _ rfl)) ?_
                      intro a ht
                      refine wpl rfl rfl ht (ev_bit ht rfl rfl rfl rfl) ?_
                      intro a ht
                      refine wpl rfl rfl ht (ev_assign ht rfl rfl) ?_
                      intro a ht
                      refine wpList_nil ?_
                      refine then_normal ?_
                      refine wpr ?_
                      refine wpl rfl rfl ht (ev_move ht rfl rfl) ?_
                      intro a ht
                      refine wpl rfl rfl ht (ev_move ht rfl rfl) ?_
                      intro a ht
                      refine wpl rfl rfl ht (ev_move ht rfl rfl) ?_
                      intro a ht
                      refine wpl rfl rfl ht (ev_move ht rfl rfl) ?_
                      intro a ht
                      obtain ⟨t42, et42, H⟩ := bind_get H
                      refine wpl rfl rfl ht (ev_index_ints ht rfl rfl rfl so_25 (hm.vec_row 0 rfl) et42) ?_
                      intro a ht
                      refine wpl rfl rfl ht (ev_load ht rfl rfl sc_2 (RowAt.cell (hm.vec_row 0 rfl) (ints_get et42) rfl)) ?_
                      intro a ht
                      refine wpl rfl rfl ht (ev_move ht rfl rfl) ?_
                      intro a ht
                      refine wpl rfl rfl ht (ev_convert ht rfl rfl und_2 und_53) ?_
                      intro a ht
                      refine wpl rfl rfl ht (ev_shl ht rfl rfl rfl (wrapU_nonneg _ _ rfl)) ?_
                      intro a ht
                      refine wpl rfl rfl ht (ev_bit ht rfl rfl rfl rfl) ?_
                      intro a ht
                      obtain ⟨t43, et43, H⟩ := bind_get H
                      refine wpl rfl rfl ht (ev_index_ints ht rfl rfl rfl so_25 (hm.vec_row 0 rfl) et43) ?_
                      intro a ht
                      refine wpl_store_int 0 rfl rfl ht hm rfl rfl rfl sz1_2 rfl et43 ?_
                      intro a ht w hm
                      refine wpList_nil ?_
                      refine blk_normal ?_
                      refine then_normal ?_
                      refine wpr ?_
                      refine wpl rfl rfl ht (ev_move ht rfl rfl) ?_
                      intro a ht
                      refine wpl rfl rfl ht (ev_arith ht rfl rfl rfl rfl) ?_
                      intro a ht
                      refine wpl rfl rfl ht (ev_assign ht rfl rfl) ?_
                      intro a ht
                      refine wpList_nil ?_
                      exact then_normal ⟨q37, by omega, (ls4_1.set (bitop .or .i64 xs1_3 (shlI .i64 1 (wu64 xs4_2))).toNat (bitop .or .i64 t42 (shlI .i64 1 (wu64 xs4_2)))), (w64 (xs4_2 + 1)), H, by omega, ht.sub ⟨rfl, rfl, rfl, rfl, rfl, rfl, rfl, rfl, rfl, rfl, rfl, rfl, rfl, rfl, rfl, rfl, rfl, rfl, rfl, rfl, rfl, rfl, rfl, rfl, rfl, rfl, rfl, rfl, rfl, rfl, rfl, rfl, rfl, rfl, rfl, rfl, rfl, rfl, rfl, rfl, rfl, rfl, rfl, rfl, rfl, rfl, rfl, rfl, rfl, rfl, rfl, rfl, rfl, rfl, rfl, rfl, rfl, rfl, rfl, rfl, rfl, rfl, rfl, rfl, rfl, rfl, rfl, trivial⟩, (hm.pick [0, 1, 2, 3] rfl (by decide)).pickφ [] rfl⟩
                    · replace H := ite_no h41 H
                      refine wpc_no ht rfl (decide_eq_false h41) ?_
                      refine wp_skip ?_
                      refine blk_normal ?_
                      refine then_normal ?_
                      refine wpr ?_
                      refine wpl rfl rfl ht (ev_move ht rfl rfl) ?_
                      intro a ht
                      refine wpl rfl rfl ht (ev_arith ht rfl rfl rfl rfl) ?_
                      intro a ht
                      refine wpl rfl rfl ht (ev_assign ht rfl rfl) ?_
                      intro a ht
                      refine wpList_nil ?_
                      exact then_normal ⟨q37, by omega, ls4_1, (w64 (xs4_2 + 1)), H, by omega, ht.sub ⟨rfl, rfl, rfl, rfl, rfl, rfl, rfl, rfl, rfl, rfl, rfl, rfl, rfl, rfl, rfl, rfl, rfl, rfl, rfl, rfl, rfl, rfl, rfl, rfl, rfl, rfl, rfl, rfl, rfl, rfl, rfl, rfl, rfl, rfl, rfl, rfl, rfl, rfl, rfl, rfl, rfl, rfl, rfl, rfl, rfl, rfl, rfl, rfl, rfl, rfl, rfl, rfl, rfl, rfl, rfl, rfl, rfl, rfl, rfl, rfl, rfl, rfl, rfl, rfl, rfl, rfl, rfl, trivial⟩, (hm.pick [0, 1, 2, 3] rfl (by decide)).pickφ [] rfl⟩
                  · replace H := ite_no h40 H
                    refine wpl_no rfl rfl ht rfl (by rw [(decide_eq_false h40)]; decide) ?_
                    intro a ht
                    refine wpl_no rfl rfl ht rfl (by rw [(decide_eq_false h40)]; decide) ?_
                    intro a ht
                    refine wpl_no rfl rfl ht rfl (by rw [(decide_eq_false h40)]; decide) ?_
                    intro a ht
                    refine wpl_no rfl rfl ht rfl (by rw [(decide_eq_false h40)]; decide) ?_
                    intro a ht
                    refine wpl_no rfl rfl ht rfl (by rw [(decide_eq_false h40)]; decide) ?_
                    intro a ht
                    refine wpl_no rfl rfl ht rfl (by rw [(decide_eq_false h40)]; decide) ?_
                    intro a ht
                    refine wpl rfl rfl ht (ev_pick_no ht rfl rfl (decide_eq_false h40) rfl) ?_
                    intro a ht
                    refine wpList_nil ?_
                    refine then_normal ?_
                    refine wpc_no ht rfl rfl ?_
                    refine wp_skip ?_
                    refine blk_normal ?_
                    refine then_normal ?_
                    refine wpr ?_
                    refine wpl rfl rfl ht (ev_move ht rfl rfl) ?_
                    intro a ht
                    refine wpl rfl rfl ht (ev_arith ht rfl rfl rfl rfl) ?_
                    intro a ht
                    refine wpl rfl rfl ht (ev_assign ht rfl rfl) ?_
                    intro a ht
                    refine wpList_nil ?_
                    exact then_normal ⟨q37, by omega, ls4_1, (w64 (xs4_2 + 1)), H, by omega, ht.sub ⟨rfl, rfl, rfl, rfl, rfl, rfl, rfl, rfl, rfl, rfl, rfl, rfl, rfl, rfl, rfl, rfl, rfl, rfl, rfl, rfl, rfl, rfl, rfl, rfl, rfl, rfl, rfl, rfl, rfl, rfl, rfl, rfl, rfl, rfl, rfl, rfl, rfl, rfl, rfl, rfl, rfl, rfl, rfl, rfl, rfl, rfl, rfl, rfl, rfl, rfl, rfl, rfl, rfl, rfl, rfl, rfl, rfl, rfl, rfl, rfl, rfl, rfl, rfl, rfl, rfl, rfl, rfl, trivial⟩, (hm.pick [0, 1, 2, 3] rfl (by decide)).pickφ [] rfl⟩
                · replace H := ite_no h38 H
                  refine wpc_no ht rfl (decide_eq_false h38) ?_
                  refine wp_exit ?_
                  refine then_exit ?_
                  refine then_exit ?_
                  refine blk_hit ?_
                  refine blk_normal ?_
                  refine then_normal ?_
                  refine wpr ?_
                  refine wpl rfl rfl ht (ev_move ht rfl rfl) ?_
                  intro a ht
                  refine wpl rfl rfl ht (ev_arith ht rfl rfl rfl rfl) ?_
                  intro a ht
                  refine wpl rfl rfl ht (ev_assign ht rfl rfl) ?_
                  intro a ht
                  refine wpList_nil ?_
                  exact then_normal ⟨q37, by omega, ls4_1, ls2_2, (w64 (xs2_3 + 1)), H, by omega, ht.sub ⟨rfl, rfl, rfl, rfl, rfl, rfl, rfl, rfl, rfl, rfl, rfl, rfl, rfl, rfl, rfl, rfl, rfl, rfl, rfl, rfl, rfl, rfl, rfl, rfl, rfl, rfl, rfl, rfl, rfl, rfl, rfl, rfl, rfl, rfl, rfl, rfl, trivial⟩, (hm.pick [0, 1, 2, 3] rfl (by decide)).pickφ [] rfl⟩
            · replace H := ite_no h26 H
              refine wpl_no rfl rfl ht rfl (by rw [(decide_eq_false h26)]; decide) ?_
              intro a ht
              refine wpl_no rfl rfl ht rfl (by rw [(decide_eq_false h26)]; decide) ?_
              intro a ht
              refine wpl_no rfl rfl ht rfl (by rw [(decide_eq_false h26)]; decide) ?_
              intro a ht
              refine wpl_no rfl rfl ht rfl (by rw [(decide_eq_false h26)]; decide) ?_
              intro a ht
              refine wpl_no rfl rfl ht rfl (by rw [(decide_eq_false h26)]; decide) ?_
              intro a ht
              refine wpl_no rfl rfl ht rfl (by rw [(decide_eq_false h26)]; decide) ?_
              intro a ht
              refine wpl_no rfl rfl ht rfl (by rw [(decide_eq_false h26)]; decide) ?_
              intro a ht
              refine wpl_no rfl rfl ht rfl (by rw [(decide_eq_false h26)]; decide) ?_
              intro a ht
              refine wpl_no rfl rfl ht rfl (by rw [(decide_eq_false h26)]; decide) ?_
              intro a ht
              refine wpl rfl rfl ht (ev_pick_no ht rfl rfl (decide_eq_false h26) rfl) ?_
              intro a ht
              refine wpList_nil ?_
              refine then_normal ?_
              refine wpc_no ht rfl rfl ?_
              refine wp_skip ?_
              refine then_normal ?_
              refine wp_seq ?_
              refine wpr ?_
              refine wpl rfl rfl ht (ev_move ht rfl rfl) ?_
              intro a ht
              refine wpl rfl rfl ht (ev_arith ht rfl rfl rfl rfl) ?_
              intro a ht
              refine wpl rfl rfl ht (ev_assign ht rfl rfl) ?_
              intro a ht
              refine wpList_nil ?_
              refine then_normal ?_
              refine wp_block ?_
              refine wpLoop (fun q a w => ∃ (ls5_1 : List Int) (xs5_2 : Int), spec_l04Lengths.l5 q x t2 xs0_2 xs1_3 ls2_2 xs2_3 ls5_1 xs5_2 = some r ∧ q ≤ q21 ∧ Tm 144 [(4, .slice none 0 0), (5, .slice A3 m5 c4), (6, .int .i64 x.p), (7, .slice A6 m8 c9), (8, .int .i64 xs0_2), (9, .slice A12 m14 c15), (10, .int .i64 xs1_3), (11, .int .i64 xs2_3), (12, .int .i64 t25), (25, .int .i64 xs0_2), (26, .int .i64 x.p), (27, .bool (decide (xs0_2 < x.p))), (30, .int .i64 x.p), (31, .int .u64 (wu64 x.p)), (32, .int .i64 (shlI .i64 1 (wu64 x.p))), (33, .slice A12 m14 c15), (34, .slice A12 m14 c15), (35, .int .i64 xs0_2), (36, .int .u64 (wu64 xs0_2)), (37, .int .i64 (shlI .i64 1 (wu64 xs0_2))), (38, .int .i64 xs0_2), (39, .int .u64 (wu64 xs0_2)), (40, .int .i64 (shlI .i64 1 (wu64 xs0_2))), (41, .pointer (some (eaddr A12 (shlI .i64 1 (wu64 xs0_2)).toNat 1))), (42, .int .i64 xs0_2), (43, .int .u64 (wu64 xs0_2)), (44, .int .i64 (shlI .i64 1 (wu64 xs0_2))), (45, .int .i64 xs1_3), (46, .slice A12 m14 c15), (47, .int .i64 (ls1_1.length : Int)), (48, .bool (decide (xs1_3 < (ls1_1.length : Int)))), (51, .slice A12 m14 c15), (52, .int .i64 xs1_3), (53, .pointer (some (eaddr A12 xs1_3.toNat 1))), (54, .int .i64 t19), (55, .bool (decide (t19 = 0))), (56, .int .i64 xs0_2), (57, .int .i64 xs2_3), (58, .int .i64 x.p), (59, .bool (decide (xs2_3 < x.p))), (62, .slice A12 m14 c15), (63, .int .i64 xs1_3), (64, .pointer (some (eaddr A12 xs1_3.toNat 1))), (65, .int .i64 t23), (66, .int .i64 xs2_3), (67, .int .u64 (wu64 xs2_3)), (68, .int .i64 (shrI .i64 t23 (wu64 xs2_3))), (69, .int .i64 (bitop .and .i64 (shrI .i64 t23 (wu64 xs2_3)) 1)), (70, .bool (decide ((bitop .and .i64 (shrI .i64 t23 (wu64 xs2_3)) 1) = 0))), (71, .int .i64 xs1_3), (72, .int .i64 t25), (73, .int .i64 t25), (74, .bool (decide (t25 > 2))), (75, .bool (decide (t25 > 2))), (85, .bool false), (89, .int .i64 xs0_2), (90, .int .i64 (w64 (xs0_2 + 1))), (13, .int .i64 xs5_2)] a ∧ Ms X (fps []) w0 [.vec A12 c15 2 1 m14 (ints ls5_1), .vec A6 c9 4 1 m8 (bools ls2_2), .vec A3 c4 2 1 m5 (ints t2), .blk b1 28 (Col.cells x)] [] w) (k0 := q21) ⟨ls2_1, (w64 (xs0_2 + 1)), H, Nat.le_refl _, ht.sub ⟨rfl, rfl, rfl, rfl, rfl, rfl, rfl, rfl, rfl, rfl, rfl, rfl, rfl, rfl, rfl, rfl, rfl, rfl, rfl, rfl, rfl, rfl, rfl, rfl, rfl, rfl, rfl, rfl, rfl, rfl, rfl, rfl, rfl, rfl, rfl, rfl, rfl, rfl, rfl, rfl, rfl, rfl, rfl, rfl, rfl, rfl, rfl, rfl, rfl, rfl, rfl, rfl, rfl, rfl, rfl, rfl, rfl, rfl, trivial⟩, (hm.pick [0, 1, 2, 3] rfl (by decide)).pickφ [] rfl⟩ ?_
              clear H ht hm
              intro q44 a w hJ
              obtain ⟨ls5_1, xs5_2, H, hqq44, ht, hm⟩ := hJ
              cases q44 with
              | zero => cases H
              | succ q44 =>
              rw [spec_l04Lengths.l5] at H
              refine wp_seq ?_
              refine wp_seq ?_
              refine wpr ?_
              refine wpl rfl rfl ht (ev_move ht rfl rfl) ?_
              intro a ht
              refine wpl rfl rfl ht (ev_move ht rfl rfl) ?_
              intro a ht
              refine wpl rfl rfl ht (ev_cmp ht rfl rfl rfl rfl) ?_
              intro a ht
              refine wpList_nil ?_
              refine then_normal ?_
              by_cases h45 : xs5_2 < x.p
              · replace H := ite_yes h45 H
                refine wpc_yes ht rfl (decide_eq_true h45) ?_
                refine wp_skip ?_
                refine then_normal ?_
                refine wp_seq ?_
                refine wp_block ?_
                refine wp_seq ?_
                refine wpr ?_
                refine wpl rfl rfl ht (ev_move ht rfl rfl) ?_
                intro a ht
                refine wpl rfl rfl ht (ev_move ht rfl rfl) ?_
                intro a ht
                obtain ⟨t46, et46, H⟩ := bind_get H
                refine wpl rfl rfl ht (ev_index_ints ht rfl rfl rfl so_25 (hm.vec_row 2 rfl) et46) ?_
                intro a ht
                refine wpl rfl rfl ht (ev_load ht rfl rfl sc_2 (RowAt.cell (hm.vec_row 2 rfl) (ints_get et46) rfl)) ?_
                intro a ht
                refine wpl rfl rfl ht (ev_move ht rfl rfl) ?_
                intro a ht
                refine wpl rfl rfl ht (ev_convert ht rfl rfl und_2 und_53) ?_
                intro a ht
                refine wpl rfl rfl ht (ev_shr ht rfl rfl rfl (wrapU_nonneg _ _ rfl)) ?_
                intro a ht
                refine wpl rfl rfl ht (ev_bit ht rfl rfl rfl rfl) ?_
                intro a ht
                refine wpl rfl rfl ht (ev_cmp ht rfl rfl rfl rfl) ?_
                intro a ht
                refine wpl rfl rfl ht (ev_move ht rfl rfl) ?_
                intro a ht
                by_cases h47 : (bitop .and .i64 (shrI .i64 t46 (wu64 xs5_2)) 1) = 1
                · replace H := ite_yes h47 H
                  refine wpl_yes rfl ht rfl ((decide_eq_true h47)) ?_
                  refine wpl rfl rfl ht (ev_move ht rfl rfl) ?_
                  intro a ht
                  refine wpl_yes rfl ht rfl ((decide_eq_true h47)) ?_
                  refine wpl rfl rfl ht (ev_move ht rfl rfl) ?_
                  intro a ht
                  refine wpl_yes rfl ht rfl ((decide_eq_true h47)) ?_
                  refine wpl rfl rfl ht (ev_convert ht rfl rfl und_2 und_53) ?_
                  intro a ht
                  refine wpl_yes rfl ht rfl ((decide_eq_true h47)) ?_
                  refine wpl rfl rfl ht (ev_shr ht rfl rfl rfl (wrapU_nonneg _ _ rfl)) ?_
                  intro a ht
                  refine wpl_yes rfl ht rfl ((decide_eq_true h47)) ?_
                  refine wpl rfl rfl ht (ev_bit ht rfl rfl rfl rfl) ?_
                  intro a ht
                  refine wpl_yes rfl ht rfl ((decide_eq_true h47)) ?_
                  refine wpl rfl rfl ht (ev_cmp ht rfl rfl rfl rfl) ?_
                  intro a ht
                  refine wpl rfl rfl ht (ev_pick_yes ht rfl rfl (decide_eq_true h47) rfl) ?_
                  intro a ht
                  refine wpList_nil ?_
                  refine then_normal ?_
                  by_cases h48 : (bitop .and .i64 (shrI .i64 xs1_3 (wu64 xs5_2)) 1) = 0
                  · replace H := ite_yes h48 H
                    refine wpc_yes ht rfl (decide_eq_true h48) ?_
                    refine wp_seq ?_
                    refine wpr ?_
                    refine wpl rfl rfl ht (ev_move ht rfl rfl) ?_
                    intro a ht
                    refine wpl rfl rfl ht (ev_move ht rfl rfl) ?_
                    intro a ht
                    refine wpl rfl rfl ht (ev_convert ht rfl rfl und_2 und_53) ?_
                    intro a ht
                    refine wpl rfl rfl ht (ev_shl ht rfl rfl rfl (wrapU_nonneg _ _ rfl)) ?_
                    intro a ht
                    refine wpl rfl rfl ht (ev_bit ht rfl rfl rfl rfl) ?_
                    intro a ht
                    refine wpl rfl rfl ht (ev_assign ht rfl rfl) ?_
                    intro a ht
                    refine wpList_nil ?_
                    refine then_normal ?_
                    refine wpr ?_
                    refine wpl rfl rfl ht (ev_move ht rfl rfl) ?_
                    intro a ht
                    refine wpl rfl rfl ht (ev_move ht rfl rfl) ?_
                    intro a ht
                    refine wpl rfl rfl ht (ev_move ht rfl rfl) ?_
                    intro a ht
                    refine wpl rfl rfl ht (ev_move ht rfl rfl) ?_
                    intro a ht
                    obtain ⟨t49, et49, H⟩ := bind_get H
                    refine wpl rfl rfl ht (ev_index_ints ht rfl rfl rfl so_25 (hm.vec_row 0 rfl) et49) ?_
                    intro a ht
                    refine wpl rfl rfl ht (ev_load ht rfl rfl sc_2 (RowAt.cell (hm.vec_row 0 rfl) (ints_get et49) rfl)) ?_
                    intro a ht
                    refine wpl rfl rfl ht (ev_move ht rfl rfl) ?_
                    intro a ht
                    refine wpl rfl rfl ht (ev_convert ht rfl rfl und_2 und_53) ?_
                    intro a ht
                    refine wpl rfl rfl ht (ev_shl ht rfl rfl rfl (wrapU_nonneg _ _ rfl)) ?_
                    intro a ht
                    refine wpl rfl rfl ht (ev_bit ht rfl rfl rfl rfl) ?_
                    intro a ht
                    obtain ⟨t50, et50, H⟩ := bind_get H
                    refine wpl rfl rfl ht (ev_index_ints ht rfl rfl rfl so_25 (hm.vec_row 0 rfl) et50) ?_
                    intro a ht
                    refine wpl_store_int 0 rfl rfl ht hm rfl rfl rfl sz1_2 rfl et50 ?_
                    intro a ht w hm
                    refine wpList_nil ?_
                    refine blk_normal ?_
                    refine then_normal ?_
                    refine wpr ?_
                    refine wpl rfl rfl ht (ev_move ht rfl rfl) ?_
                    intro a ht
                    refine wpl rfl rfl ht (ev_arith ht rfl rfl rfl rfl) ?_
                    intro a ht
                    refine wpl rfl rfl ht (ev_assign ht rfl rfl) ?_
                    intro a ht
                    refine wpList_nil ?_
                    exact then_normal ⟨q44, by omega, (ls5_1.set (bitop .or .i64 xs1_3 (shlI .i64 1 (wu64 xs5_2))).toNat (bitop .or .i64 t49 (shlI .i64 1 (wu64 xs5_2)))), (w64 (xs5_2 + 1)), H, by omega, ht.sub ⟨rfl, rfl, rfl, rfl, rfl, rfl, rfl, rfl, rfl, rfl, rfl, rfl, rfl, rfl, rfl, rfl, rfl, rfl, rfl, rfl, rfl, rfl, rfl, rfl, rfl, rfl, rfl, rfl, rfl, rfl, rfl, rfl, rfl, rfl, rfl, rfl, rfl, rfl, rfl, rfl, rfl, rfl, rfl, rfl, rfl, rfl, rfl, rfl, rfl, rfl, rfl, rfl, rfl, rfl, rfl, rfl, rfl, rfl, trivial⟩, (hm.pick [0, 1, 2, 3] rfl (by decide)).pickφ [] rfl⟩
                  · replace H := ite_no h48 H
                    refine wpc_no ht rfl (decide_eq_false h48) ?_
                    refine wp_skip ?_
                    refine blk_normal ?_
                    refine then_normal ?_
                    refine wpr ?_
                    refine wpl rfl rfl ht (ev_move ht rfl rfl) ?_
                    intro a ht
                    refine wpl rfl rfl ht (ev_arith ht rfl rfl rfl rfl) ?_
                    intro a ht
                    refine wpl rfl rfl ht (ev_assign ht rfl rfl) ?_
                    intro a ht
                    refine wpList_nil ?_
                    exact then_normal ⟨q44, by omega, ls5_1, (w64 (xs5_2 + 1)), H, by omega, ht.sub ⟨rfl, rfl, rfl, rfl, rfl, rfl, rfl, rfl, rfl, rfl, rfl, rfl, rfl, rfl, rfl, rfl, rfl, rfl, rfl, rfl, rfl, rfl, rfl, rfl, rfl, rfl, rfl, rfl, rfl, rfl, rfl, rfl, rfl, rfl, rfl, rfl, rfl, rfl, rfl, rfl, rfl, rfl, rfl, rfl, rfl, rfl, rfl, rfl, rfl, rfl, rfl, rfl, rfl, rfl, rfl, rfl, rfl, rfl, trivial⟩, (hm.pick [0, 1, 2, 3] rfl (by decide)).pickφ [] rfl⟩
                · replace H := ite_no h47 H
                  refine wpl_no rfl rfl ht rfl (by rw [(decide_eq_false h47)]; decide) ?_
                  intro a ht
                  refine wpl_no rfl rfl ht rfl (by rw [(decide_eq_false h47)]; decide) ?_
                  intro a ht
                  refine wpl_no rfl rfl ht rfl (by rw [(decide_eq_false h47)]; decide) ?_
                  intro a ht
                  refine wpl_no rfl rfl ht rfl (by rw [(decide_eq_false h47)]; decide) ?_
                  intro a ht
                  refine wpl_no rfl rfl ht rfl (by rw [(decide_eq_false h47)]; decide) ?_
                  intro a ht
                  refine wpl_no rfl rfl ht rfl (by rw [(decide_eq_false h47)]; decide) ?_
                  intro a ht
                  refine wpl rfl rfl ht (ev_pick_no ht rfl rfl (decide_eq_false h47) rfl) ?_
                  intro a ht
                  refine wpList_nil ?_
                  refine then_normal ?_
                  refine wpc_no ht rfl rfl ?_
                  refine wp_skip ?_
                  refine blk_normal ?_
                  refine then_normal ?_
                  refine wpr ?_
                  refine wpl rfl rfl ht (ev_move ht rfl rfl) ?_
                  intro a ht
                  refine wpl rfl rfl ht (ev_arith ht rfl rfl rfl rfl) ?_
                  intro a ht
                  refine wpl rfl rfl ht (ev_assign ht rfl rfl) ?_
                  intro a ht
                  refine wpList_nil ?_
                  exact then_normal ⟨q44, by omega, ls5_1, (w64 (xs5_2 + 1)), H, by omega, ht.sub ⟨rfl, rfl, rfl, rfl, rfl, rfl, rfl, rfl, rfl, rfl, rfl, rfl, rfl, rfl, rfl, rfl, rfl, rfl, rfl, rfl, rfl, rfl, rfl, rfl, rfl, rfl, rfl, rfl, rfl, rfl, rfl, rfl, rfl, rfl, rfl, rfl, rfl, rfl, rfl, rfl, rfl, rfl, rfl, rfl, rfl, rfl, rfl, rfl, rfl, rfl, rfl, rfl, rfl, rfl, rfl, rfl, rfl, rfl, trivial⟩, (hm.pick [0, 1, 2, 3] rfl (by decide)).pickφ [] rfl⟩
              · replace H := ite_no h45 H
                refine wpc_no ht rfl (decide_eq_false h45) ?_
                refine wp_exit ?_
                refine then_exit ?_
                refine then_exit ?_
                refine blk_hit ?_
                refine blk_normal ?_
                refine then_normal ?_
                refine wpr ?_
                refine wpl rfl rfl ht (ev_move ht rfl rfl) ?_
                intro a ht
                refine wpl rfl rfl ht (ev_arith ht rfl rfl rfl rfl) ?_
                intro a ht
                refine wpl rfl rfl ht (ev_assign ht rfl rfl) ?_
                intro a ht
                refine wpList_nil ?_
                exact then_normal ⟨q44, by omega, ls5_1, ls2_2, (w64 (xs2_3 + 1)), H, by omega, ht.sub ⟨rfl, rfl, rfl, rfl, rfl, rfl, rfl, rfl, rfl, rfl, rfl, rfl, rfl, rfl, rfl, rfl, rfl, rfl, rfl, rfl, rfl, rfl, rfl, rfl, rfl, rfl, rfl, rfl, rfl, rfl, rfl, rfl, rfl, rfl, rfl, rfl, trivial⟩, (hm.pick [0, 1, 2, 3] rfl (by decide)).pickφ [] rfl⟩
        · replace H := ite_no h22 H
          refine wpc_no ht rfl (decide_eq_false h22) ?_
          refine wp_exit ?_
          refine then_exit ?_
          refine then_exit ?_
          refine blk_hit ?_
          refine blk_normal ?_
          refine then_normal ?_
          refine wpr ?_
          refine wpl rfl rfl ht (ev_move ht rfl rfl) ?_
          intro a ht
          refine wpl rfl rfl ht (ev_arith ht rfl rfl rfl rfl) ?_
          intro a ht
          refine wpl rfl rfl ht (ev_assign ht rfl rfl) ?_
          intro a ht
          refine wpList_nil ?_
          exact then_normal ⟨q21, by omega, ls2_1, ls2_2, (w64 (xs1_3 + 1)), H, by omega, ht.sub ⟨rfl, rfl, rfl, rfl, rfl, rfl, rfl, rfl, rfl, rfl, rfl, rfl, rfl, rfl, rfl, rfl, rfl, rfl, rfl, rfl, rfl, rfl, rfl, rfl, rfl, trivial⟩, (hm.pick [0, 1, 2, 3] rfl (by decide)).pickφ [] rfl⟩
    · replace H := ite_no h18 H
      refine wpc_no ht rfl (decide_eq_false h18) ?_
      refine wp_exit ?_
      refine then_exit ?_
      refine then_exit ?_
      refine blk_hit ?_
      refine blk_normal ?_
      refine then_normal ?_
      refine wpr ?_
      refine wpl rfl rfl ht (ev_move ht rfl rfl) ?_
      intro a ht
      refine wpl rfl rfl ht (ev_arith ht rfl rfl rfl rfl) ?_
      intro a ht
      refine wpl rfl rfl ht (ev_assign ht rfl rfl) ?_
      intro a ht
      refine wpList_nil ?_
      exact then_normal ⟨q17, by omega, ls1_2, (w64 (xs0_2 + 1)), H, by omega, ht.sub ⟨rfl, rfl, rfl, rfl, rfl, trivial⟩, (hm.pick [1, 2, 3] rfl (by decide)).pickφ [] rfl⟩
  · replace H := ite_no h11 H
    refine wpc_no ht rfl (decide_eq_false h11) ?_
    refine wp_exit ?_
    refine then_exit ?_
    refine then_exit ?_
    refine blk_hit ?_
    refine then_normal ?_
    refine wp_seq ?_
    refine wpr ?_
    refine wpl_build_ints (l := ([] : List Int)) rfl rfl ht hm rfl und_25 zo_2 sz1_2 (by decide) rfl rfl rfl ?_
    intro A51 a ht w hm
    refine wpl rfl rfl ht (ev_assign ht rfl rfl) ?_
    intro a ht
    refine wpList_nil ?_
    refine then_normal ?_
    refine wp_seq ?_
    refine wp_seq ?_
    refine wpr ?_
    refine wpl rfl rfl ht (ev_assign ht rfl rfl) ?_
    intro a ht
    refine wpList_nil ?_
    refine then_normal ?_
    refine wp_block ?_
    refine wpLoop (fun q a w => ∃ (ls6_4 : List Int) (xs6_5 : Int) (As6_1 : Option Addr) (cs6_2 : Nat) (ms6_3 : Nat), spec_l04Lengths.l6 q x ls0_1 ls6_4 xs6_5 = some r ∧ q ≤ q10 ∧ Tm 144 [(4, .slice none 0 0), (6, .int .i64 x.p), (7, .slice A6 m8 c9), (15, .slice As6_1 ms6_3 cs6_2), (16, .int .i64 xs6_5)] a ∧ Ms X (fps []) w0 [.vec As6_1 cs6_2 2 1 ms6_3 (ints ls6_4), .vec A6 c9 4 1 m8 (bools ls0_1), .vec A3 c4 2 1 m5 (ints t2), .blk b1 28 (Col.cells x)] [] w) (k0 := q10) ⟨([] : List Int), 3, A51, 0, 0, H, Nat.le_refl _, ht.sub ⟨rfl, rfl, rfl, rfl, rfl, trivial⟩, (hm.pick [0, 1, 2, 3] rfl (by decide)).pickφ [] rfl⟩ ?_
    clear H ht hm
    intro q52 a w hJ
    obtain ⟨ls6_4, xs6_5, As6_1, cs6_2, ms6_3, H, hqq52, ht, hm⟩ := hJ
    cases q52 with
    | zero => cases H
    | succ q52 =>
    rw [spec_l04Lengths.l6] at H
    refine wp_seq ?_
    refine wp_seq ?_
    refine wpr ?_
    refine wpl rfl rfl ht (ev_move ht rfl rfl) ?_
    intro a ht
    refine wpl rfl rfl ht (ev_move ht rfl rfl) ?_
    intro a ht
    refine wpl rfl rfl ht (ev_cmp ht rfl rfl rfl rfl) ?_
    intro a ht
    refine wpList_nil ?_
    refine then_normal ?_
    by_cases h53 : xs6_5 ≤ x.p
    · replace H := ite_yes h53 H
      refine wpc_yes ht rfl (decide_eq_true h53) ?_
      refine wp_skip ?_
      refine then_normal ?_
      refine wp_seq ?_
      refine wp_block ?_
      refine wp_seq ?_
      refine wpr ?_
      refine wpl rfl rfl ht (ev_move ht rfl rfl) ?_
      intro a ht
      refine wpl rfl rfl ht (ev_move ht rfl rfl) ?_
      intro a ht
      obtain ⟨b54, eb54, H⟩ := bind_get H
      refine wpl rfl rfl ht (ev_index_bools ht rfl rfl rfl so_52 (hm.vec_row 1 rfl) eb54) ?_
      intro a ht
      refine wpl rfl rfl ht (ev_load ht rfl rfl sc_4 (RowAt.cell (hm.vec_row 1 rfl) (bools_get eb54) rfl)) ?_
      intro a ht
      refine wpList_nil ?_
      refine then_normal ?_
      by_cases h55 : b54 = true
      · replace H := ite_yes h55 H
        refine wpc_yes ht rfl h55 ?_
        refine wpr ?_
        refine wpl rfl rfl ht (ev_move ht rfl rfl) ?_
        intro a ht
        refine wpl rfl rfl ht (ev_move ht rfl rfl) ?_
        intro a ht
        refine wpl_build_ints (l := [xs6_5]) rfl rfl ht hm rfl und_25 zo_2 sz1_2 (by decide) rfl rfl rfl ?_
        intro A56 a ht w hm
        obtain ⟨l60, el60, H⟩ := bind_get H
        refine wpl_push (r := l60) 1 0 rfl rfl ht hm rfl ap_25 rfl rfl rfl rfl el60 ?_
        intro A57 c58 m59 a ht w hm
        refine wpl rfl rfl ht (ev_assign ht rfl rfl) ?_
        intro a ht
        refine wpList_nil ?_
        refine blk_normal ?_
        refine then_normal ?_
        refine wpr ?_
        refine wpl rfl rfl ht (ev_move ht rfl rfl) ?_
        intro a ht
        refine wpl rfl rfl ht (ev_arith ht rfl rfl rfl rfl) ?_
        intro a ht
        refine wpl rfl rfl ht (ev_assign ht rfl rfl) ?_
        intro a ht
        refine wpList_nil ?_
        exact then_normal ⟨q52, by omega, l60, (w64 (xs6_5 + 1)), A57, c58, m59, H, by omega, ht.sub ⟨rfl, rfl, rfl, rfl, rfl, trivial⟩, (hm.pick [1, 2, 3, 4] rfl (by decide)).pickφ [] rfl⟩
      · replace H := ite_no h55 H
        refine wpc_no ht rfl (Bool.eq_false_iff.mpr h55) ?_
        refine wp_skip ?_
        refine blk_normal ?_
        refine then_normal ?_
        refine wpr ?_
        refine wpl rfl rfl ht (ev_move ht rfl rfl) ?_
        intro a ht
        refine wpl rfl rfl ht (ev_arith ht rfl rfl rfl rfl) ?_
        intro a ht
        refine wpl rfl rfl ht (ev_assign ht rfl rfl) ?_
        intro a ht
        refine wpList_nil ?_
        exact then_normal ⟨q52, by omega, ls6_4, (w64 (xs6_5 + 1)), As6_1, cs6_2, ms6_3, H, by omega, ht.sub ⟨rfl, rfl, rfl, rfl, rfl, trivial⟩, (hm.pick [0, 1, 2, 3] rfl (by decide)).pickφ [] rfl⟩
    · replace H := ite_no h53 H
      refine wpc_no ht rfl (decide_eq_false h53) ?_
      refine wp_exit ?_
      refine then_exit ?_
      refine then_exit ?_
      refine blk_hit ?_
      refine then_normal ?_
      refine wp_seq ?_
      refine wpr ?_
      refine wpl rfl rfl ht (ev_move ht rfl rfl) ?_
      intro a ht
      refine wpl rfl rfl ht (ev_assign ht rfl rfl) ?_
      intro a ht
      refine wpList_nil ?_
      refine then_normal ?_
      refine wp_ret ?_
      have hres := ht.res (P := Try.prog) (w := w) (rs := [.tmp 4]) (vs := [.slice As6_1 ms6_3 cs6_2]) (.tmp rfl .nil)
      obtain rfl := Option.some.inj H
      exact leave ht rfl hres ⟨As6_1, cs6_2, ms6_3, rfl, ((hm.pick [0] rfl (by decide)).pickφ [] rfl).post fun _ h => h⟩

end Go.Proofs.Ytjhcacfhahpdgaa.G
