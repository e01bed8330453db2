/- What each Go function computes, as a Lean function, and the proof that it does: written by a program of this session (wip/gen), part 6. -/
import Derived.Test.YtjhcacfhahpdgaaGFnExactGreatestMatching5
namespace Go.Proofs.Ytjhcacfhahpdgaa.G
open Go Go.RowKit Go.Proofs.Ytjhcacfhahpdgaa.K
set_option linter.unusedVariables false
set_option linter.unusedSimpArgs false

/-! ### impl_Colouring_matching: function 30 ((*loop.example/g01362/impl.Colouring).matching) -/
mutual
def impl_Colouring_matching.l0 : Nat → Col → Int → List (List Int) → List (Int × Int) → Int → Int → Option (List (List Int))
  | 0, _, _, _, _, _, _ => none
  | q5 + 1, x, c, ls0_4, ms0_6, xs0_7, xs0_8 => if xs0_8 < x.p then ((guardO (0 ≤ xs0_8)).bind fun _ => if (bitop .and .i64 (shrI .i64 xs0_7 xs0_8) 1) = 0 then (impl_Colouring_matching.l0 q5 x c ls0_4 ms0_6 xs0_7 (w64 (xs0_8 + 1))) else ((guardO (0 ≤ xs0_8)).bind fun _ => (impl_matcher_behind.f q5 x c ms0_6 xs0_7).bind fun t10 => impl_Colouring_matching.l1 q5 x c ls0_4 xs0_7 xs0_8 t10 t10.2 (w64 (xs0_8 + 1)))) else (some ls0_4)
def impl_Colouring_matching.l1 : Nat → Col → Int → List (List Int) → Int → Int → Int × List (Int × Int) → List (Int × Int) → Int → Option (List (List Int))
  | 0, _, _, _, _, _, _, _, _ => none
  | q11 + 1, x, c, ls0_4, xs0_7, xs0_8, t10, ms1_1, xs1_2 => if xs1_2 < x.p then ((guardO (0 ≤ xs1_2)).bind fun _ => if (bitop .and .i64 (shrI .i64 (bitop .andNot .i64 xs0_7 (shlI .i64 1 xs0_8)) xs1_2) 1) = 1 then ((impl_Colouring_joins.f x xs0_8 xs1_2 c).bind fun t15 => if t15 = true then ((guardO (0 ≤ xs1_2)).bind fun _ => (impl_matcher_behind.f q11 x c ms1_1 (bitop .andNot .i64 (bitop .andNot .i64 xs0_7 (shlI .i64 1 xs0_8)) (shlI .i64 1 xs1_2))).bind fun t18 => if (w64 (t18.1 + 1)) = t10.1 then ((guardO (0 ≤ xs1_2)).bind fun _ => (concatR ls0_4 ([[xs0_8, xs1_2]])).bind fun l5523 => impl_Colouring_matching.l0 q11 x c l5523 t18.2 (bitop .andNot .i64 (bitop .andNot .i64 xs0_7 (shlI .i64 1 xs0_8)) (shlI .i64 1 xs1_2)) (w64 (xs0_8 + 1))) else (impl_Colouring_matching.l1 q11 x c ls0_4 xs0_7 xs0_8 t10 t18.2 (w64 (xs1_2 + 1)))) else (impl_Colouring_matching.l1 q11 x c ls0_4 xs0_7 xs0_8 t10 ms1_1 (w64 (xs1_2 + 1)))) else (impl_Colouring_matching.l1 q11 x c ls0_4 xs0_7 xs0_8 t10 ms1_1 (w64 (xs1_2 + 1)))) else (impl_Colouring_matching.l0 q11 x c ls0_4 ms1_1 (bitop .andNot .i64 xs0_7 (shlI .i64 1 xs0_8)) (w64 (xs0_8 + 1)))
end
def impl_Colouring_matching.f (k : Nat) (x : Col) (c : Int) : Option (List (List Int)) := (guardO (0 ≤ x.p)).bind fun _ => impl_Colouring_matching.l0 k x c ([] : List (List Int)) ([] : List (Int × Int)) (w64 ((shlI .i64 1 x.p) - 1)) 0
set_option maxRecDepth 100000 in
set_option maxHeartbeats 1000000 in
theorem impl_Colouring_matching.calls (k : Nat) (X : List Nat) (w0 : World) (b : Nat) (x : Col) (c : Int) (r : List (List Int))
    (hp : Pre X w0 [.blk b 28 (Col.cells x)] []) (H : impl_Colouring_matching.f k x c = some r) :
    Calls Try.prog 30 [.pointer (some ⟨b, 0, none⟩), .int .i64 c].toArray w0 (Ret fun v w => ∃ (A_0 : Option Addr) (c_0 : Nat) (n_0 : Nat) (vs_0 : List Value), v = .slice A_0 n_0 c_0 ∧ Post X (fps [.blk b 28 (Col.cells x)]) w0 [.vecs A_0 c_0 25 2 n_0 vs_0 r, .blk b 28 (Col.cells x)] [] w) := by
  unfold impl_Colouring_matching.f at H
  refine enterM (n := 89) hp Try.func30 rfl rfl (Nat.le_of_ble_eq_true rfl) fun a w ht hm => ?_
  refine wp_seq ?_
  refine wpr ?_
  refine wpl rfl rfl ht (ev_assign ht rfl rfl) ?_
  intro a ht
  refine wpList_nil ?_
  refine then_normal ?_
  refine wp_seq ?_
  refine wpr ?_
  refine wpl rfl rfl ht (ev_move ht rfl rfl) ?_
  intro a ht
  refine wpl rfl rfl ht (ev_move ht rfl rfl) ?_
  intro a ht
  refine wpl_makeMap rfl rfl ht hm rfl ?_
  intro b1 a ht w hm
  refine wpl rfl rfl ht (ev_build (vs := [.pointer (some ⟨b, 0, none⟩), .int .i64 c, .map (some b1)]) ht rfl bi_66 rfl rfl) ?_
  intro a ht
  refine wpl_box rfl rfl ht hm rfl rfl rfl ?_
  intro b2 a ht w hm
  replace hm : Ms _ _ _ _ (AllOwn w0.heap.size 2 ([]) ([] : List (List Int)) :: _) w := hm.addφ (allOwn_nil w0.heap.size 2)
  refine wpl_buildSlice (vs := []) rfl rfl ht hm rfl und_33 zo_25 sz1_25 (by decide) rfl rfl rfl ?_
  intro A3 a ht w hm
  refine wpl rfl rfl ht (ev_assign ht rfl rfl) ?_
  intro a ht
  refine wpl rfl rfl ht (ev_assign ht rfl rfl) ?_
  intro a ht
  refine wpList_nil ?_
  refine then_normal ?_
  refine wp_seq ?_
  refine wpr ?_
  refine wpl rfl rfl ht (ev_move ht rfl rfl) ?_
  intro a ht
  refine wpl rfl rfl ht (ev_nilCheck ht rfl rfl) ?_
  intro a ht
  refine wpl rfl rfl ht (ev_fieldAddr ht rfl rfl fo_28_0) ?_
  intro a ht
  refine wpl rfl rfl ht (ev_load ht rfl rfl sc_2 (hm.blk_cell 3 rfl rfl)) ?_
  intro a ht
  obtain ⟨u4, eu4, H⟩ := bind_get H
  refine wpl rfl rfl ht (ev_shl ht rfl rfl rfl (guardO_get eu4)) ?_
  intro a ht
  refine wpl rfl rfl ht (ev_arith ht rfl rfl rfl rfl) ?_
  intro a ht
  refine wpl rfl rfl ht (ev_assign ht rfl rfl) ?_
  intro a ht
  refine wpList_nil ?_
  refine then_normal ?_
  refine wp_seq ?_
  refine wp_seq ?_
  refine wpr ?_
  refine wpl rfl rfl ht (ev_move ht rfl rfl) ?_
  intro a ht
  refine wpl rfl rfl ht (ev_nilCheck ht rfl rfl) ?_
  intro a ht
  refine wpl rfl rfl ht (ev_fieldAddr ht rfl rfl fo_28_0) ?_
  intro a ht
  refine wpl rfl rfl ht (ev_load ht rfl rfl sc_2 (hm.blk_cell 3 rfl rfl)) ?_
  intro a ht
  refine wpl rfl rfl ht (ev_move ht rfl rfl) ?_
  intro a ht
  refine wpList_nil ?_
  refine then_normal ?_
  refine wp_block ?_
  refine wpLoop (fun q a w => ∃ (ls0_4 : List (List Int)) (ms0_6 : List (Int × Int)) (xs0_7 : Int) (xs0_8 : Int) (As0_1 : Option Addr) (cs0_2 : Nat) (ms0_3 : Nat) (vss0_5 : List Value), impl_Colouring_matching.l0 q x c ls0_4 ms0_6 xs0_7 xs0_8 = some r ∧ q ≤ k ∧ Tm 89 [(0, .pointer (some ⟨b, 0, none⟩)), (1, .int .i64 c), (4, .slice none 0 0), (5, .pointer (some ⟨b2, 0, none⟩)), (6, .slice As0_1 ms0_3 cs0_2), (27, .int .i64 x.p), (7, .int .i64 xs0_7), (28, .int .i64 xs0_8)] a ∧ Ms X (fps [.blk b 28 (Col.cells x)]) w0 [.vec As0_1 cs0_2 25 1 ms0_3 vss0_5, .blk b2 66 [.pointer (some ⟨b, 0, none⟩), .int .i64 c, .map (some b1)], .kv b1 (kvI ms0_6), .blk b 28 (Col.cells x)] [AllOwn w0.heap.size 2 vss0_5 ls0_4] w) (k0 := k) ⟨([] : List (List Int)), ([] : List (Int × Int)), (w64 ((shlI .i64 1 x.p) - 1)), 0, A3, 0, 0, ([]), H, Nat.le_refl _, ht.sub ⟨rfl, rfl, rfl, rfl, rfl, rfl, rfl, rfl, trivial⟩, (hm.pick [0, 1, 2, 3] rfl (by decide)).pickφ [0] rfl⟩ ?_
  clear H ht hm
  intro q5 a w hJ
  obtain ⟨ls0_4, ms0_6, xs0_7, xs0_8, As0_1, cs0_2, ms0_3, vss0_5, H, hqq5, ht, hm⟩ := hJ
  cases q5 with
  | zero => cases H
  | succ q5 =>
  rw [impl_Colouring_matching.l0] at H
  refine wp_seq ?_
  refine wpr ?_
  refine wpl rfl rfl ht (ev_cmp ht rfl rfl rfl rfl) ?_
  intro a ht
  refine wpList_nil ?_
  refine then_normal ?_
  refine wp_seq ?_
  by_cases h6 : xs0_8 < x.p
  · replace H := ite_yes h6 H
    refine wpc_yes ht rfl (decide_eq_true h6) ?_
    refine wp_skip ?_
    refine then_normal ?_
    refine wp_seq ?_
    refine wp_block ?_
    refine wp_seq ?_
    refine wpr ?_
    refine wpl rfl rfl ht (ev_move ht rfl rfl) ?_
    intro a ht
    refine wpl rfl rfl ht (ev_assign ht rfl rfl) ?_
    intro a ht
    refine wpList_nil ?_
    refine then_normal ?_
    refine wp_seq ?_
    refine wp_seq ?_
    refine wpr ?_
    refine wpl rfl rfl ht (ev_move ht rfl rfl) ?_
    intro a ht
    refine wpl rfl rfl ht (ev_move ht rfl rfl) ?_
    intro a ht
    obtain ⟨u7, eu7, H⟩ := bind_get H
    refine wpl rfl rfl ht (ev_shr ht rfl rfl rfl (guardO_get eu7)) ?_
    intro a ht
    refine wpl rfl rfl ht (ev_bit ht rfl rfl rfl rfl) ?_
    intro a ht
    refine wpl rfl rfl ht (ev_cmp ht rfl rfl rfl rfl) ?_
    intro a ht
    refine wpList_nil ?_
    refine then_normal ?_
    by_cases h8 : (bitop .and .i64 (shrI .i64 xs0_7 xs0_8) 1) = 0
    · replace H := ite_yes h8 H
      refine wpc_yes ht rfl (decide_eq_true h8) ?_
      refine wp_exit ?_
      refine then_exit ?_
      refine blk_hit ?_
      refine then_normal ?_
      refine wpr ?_
      refine wpl rfl rfl ht (ev_arith ht rfl rfl rfl rfl) ?_
      intro a ht
      refine wpl rfl rfl ht (ev_move ht rfl rfl) ?_
      intro a ht
      refine wpList_nil ?_
      exact then_normal ⟨q5, by omega, ls0_4, ms0_6, xs0_7, (w64 (xs0_8 + 1)), As0_1, cs0_2, ms0_3, vss0_5, H, by omega, ht.sub ⟨rfl, rfl, rfl, rfl, rfl, rfl, rfl, rfl, trivial⟩, (hm.pick [0, 1, 2, 3] rfl (by decide)).pickφ [0] rfl⟩
    · replace H := ite_no h8 H
      refine wpc_no ht rfl (decide_eq_false h8) ?_
      refine wp_skip ?_
      refine then_normal ?_
      refine wp_seq ?_
      refine wph_begin (fun w => Ms X (fps [.blk b 28 (Col.cells x)]) w0 [.vec As0_1 cs0_2 25 1 ms0_3 vss0_5, .blk b2 66 [.pointer (some ⟨b, 0, none⟩), .int .i64 c, .map (some b1)], .blk b 28 (Col.cells x)] [AllOwn w0.heap.size 2 vss0_5 ls0_4] w) mixed ?_
      replace hm := hm.drew
      have hS : Ms X (fps [.blk b 28 (Col.cells x)]) w0 [.vec As0_1 cs0_2 25 1 ms0_3 vss0_5, .blk b2 66 [.pointer (some ⟨b, 0, none⟩), .int .i64 c, .map (some b1)], .blk b 28 (Col.cells x)] [AllOwn w0.heap.size 2 vss0_5 ls0_4] w.drew := (hm.pick [0, 1, 3] rfl (by decide)).pickφ [0] rfl
      generalize w.drew = w at hm hS ⊢
      refine wph_take (i := 0) rfl (by kernel_rfl) (by kernel_rfl) (by kernel_rfl) (fun _ _ _ h => h) rfl ht hS (wanted_plain rfl) (fun w hm => ev_move ht rfl rfl) ?_
      intro a ht
      refine wph_take (i := 1) rfl (by kernel_rfl) (by kernel_rfl) (by kernel_rfl) (fun _ _ _ h => h) rfl ht hS (wanted_plain rfl) (fun w hm => ev_move ht rfl rfl) ?_
      intro a ht
      refine wph_take (i := 3) rfl (by kernel_rfl) (by kernel_rfl) (by kernel_rfl) (fun _ _ _ h => h) rfl ht hS (wanted_plain rfl) (fun w hm => ev_move ht rfl rfl) ?_
      intro a ht
      refine wph_take (i := 4) rfl (by kernel_rfl) (by kernel_rfl) (by kernel_rfl) (fun _ _ _ h => h) rfl ht hS (wanted_plain rfl) (fun w hm => ev_move ht rfl rfl) ?_
      intro a ht
      obtain ⟨u9, eu9, H⟩ := bind_get H
      refine wph_take (i := 5) rfl (by kernel_rfl) (by kernel_rfl) (by kernel_rfl) (fun _ _ _ h => h) rfl ht hS (wanted_plain rfl) (fun w hm => ev_shl ht rfl rfl rfl (guardO_get eu9)) ?_
      intro a ht
      refine wph_take (i := 6) rfl (by kernel_rfl) (by kernel_rfl) (by kernel_rfl) (fun _ _ _ h => h) rfl ht hS (wanted_plain rfl) (fun w hm => ev_bit ht rfl rfl rfl rfl) ?_
      intro a ht
      refine wph_one (i := 2) (by kernel_rfl) (wph_step rfl ?_)
      obtain ⟨t10, et10, H⟩ := bind_get H
      have hcall := impl_matcher_behind.calls q5 _ _ b2 b b1 x c ms0_6 xs0_7 _ ((fun (hq : Ms _ _ _ ([.blk b2 66 [.pointer (some ⟨b, 0, none⟩), .int .i64 c, .map (some b1)], .blk b 28 (Col.cells x), .kv b1 (kvI ms0_6)] ++ [.vec As0_1 cs0_2 25 1 ms0_3 vss0_5]) _ _) => hq.lend (φp := []) (allRO_nil)) (hm.pick (own' := [.blk b2 66 [.pointer (some ⟨b, 0, none⟩), .int .i64 c, .map (some b1)], .blk b 28 (Col.cells x), .kv b1 (kvI ms0_6)] ++ [.vec As0_1 cs0_2 25 1 ms0_3 vss0_5]) [1, 3, 2, 0] rfl (by decide))) et10
      refine wpl_call _ rfl rfl ht rfl rfl rfl rfl can_45 hcall ?_
      clear hcall
      rintro _ w ⟨rfl, hpost⟩ a ht
      replace hm := (hm.pick (own' := [.blk b2 66 [.pointer (some ⟨b, 0, none⟩), .int .i64 c, .map (some b1)], .blk b 28 (Col.cells x), .kv b1 (kvI ms0_6)] ++ [.vec As0_1 cs0_2 25 1 ms0_3 vss0_5]) [1, 3, 2, 0] rfl (by decide)).backL hpost
      clear hpost
      have hS : Ms X (fps [.blk b 28 (Col.cells x)]) w0 [.vec As0_1 cs0_2 25 1 ms0_3 vss0_5, .blk b2 66 [.pointer (some ⟨b, 0, none⟩), .int .i64 c, .map (some b1)], .blk b 28 (Col.cells x)] [AllOwn w0.heap.size 2 vss0_5 ls0_4] w := (hm.pick [3, 0, 1] rfl (by decide)).pickφ [0] rfl
      refine wpList_nil (qn ⟨hS, ?_⟩)
      refine wph_take (i := 7) rfl (by kernel_rfl) (by kernel_rfl) (by kernel_rfl) (fun _ _ _ h => h) rfl ht hS (wanted_plain rfl) (fun w hm => ev_assign ht rfl rfl) ?_
      intro a ht
      refine wph_take (i := 8) rfl (by kernel_rfl) (by kernel_rfl) (by kernel_rfl) (fun _ _ _ h => h) rfl ht hS (wanted_plain rfl) (fun w hm => ev_assign ht rfl rfl) ?_
      intro a ht
      refine wph_done (by kernel_rfl) ?_
      refine then_normal ?_
      refine wp_seq ?_
      refine wpr ?_
      refine wpl rfl rfl ht (ev_move ht rfl rfl) ?_
      intro a ht
      refine wpl rfl rfl ht (ev_assign ht rfl rfl) ?_
      intro a ht
      refine wpList_nil ?_
      refine then_normal ?_
      refine wp_seq ?_
      refine wpr ?_
      refine wpl rfl rfl ht (ev_move ht rfl rfl) ?_
      intro a ht
      refine wpl rfl rfl ht (ev_arith ht rfl rfl rfl rfl) ?_
      intro a ht
      refine wpl rfl rfl ht (ev_assign ht rfl rfl) ?_
      intro a ht
      refine wpList_nil ?_
      refine then_normal ?_
      refine wp_block ?_
      refine wpLoop (fun q a w => ∃ (ms1_1 : List (Int × Int)) (xs1_2 : Int), impl_Colouring_matching.l1 q x c ls0_4 xs0_7 xs0_8 t10 ms1_1 xs1_2 = some r ∧ q ≤ q5 ∧ Tm 89 [(0, .pointer (some ⟨b, 0, none⟩)), (1, .int .i64 c), (4, .slice none 0 0), (5, .pointer (some ⟨b2, 0, none⟩)), (6, .slice As0_1 ms0_3 cs0_2), (7, .int .i64 (bitop .andNot .i64 xs0_7 (shlI .i64 1 xs0_8))), (8, .int .i64 xs0_8), (9, .int .i64 t10.1), (10, .int .i64 (bitop .andNot .i64 xs0_7 (shlI .i64 1 xs0_8))), (27, .int .i64 x.p), (28, .int .i64 xs0_8), (29, .bool (decide (xs0_8 < x.p))), (30, .int .i64 xs0_8), (31, .int .i64 xs0_7), (32, .int .i64 xs0_8), (33, .int .i64 (shrI .i64 xs0_7 xs0_8)), (34, .int .i64 (bitop .and .i64 (shrI .i64 xs0_7 xs0_8) 1)), (35, .bool (decide ((bitop .and .i64 (shrI .i64 xs0_7 xs0_8) 1) = 0))), (36, .pointer (some ⟨b2, 0, none⟩)), (37, .int .i64 xs0_7), (38, .int .i64 t10.1), (39, .int .i64 xs0_7), (40, .int .i64 xs0_8), (41, .int .i64 (shlI .i64 1 xs0_8)), (42, .int .i64 (bitop .andNot .i64 xs0_7 (shlI .i64 1 xs0_8))), (43, .int .i64 (bitop .andNot .i64 xs0_7 (shlI .i64 1 xs0_8))), (44, .int .i64 xs0_8), (45, .int .i64 (w64 (xs0_8 + 1))), (11, .int .i64 xs1_2)] a ∧ Ms X (fps [.blk b 28 (Col.cells x)]) w0 [.blk b2 66 [.pointer (some ⟨b, 0, none⟩), .int .i64 c, .map (some b1)], .blk b 28 (Col.cells x), .kv b1 (kvI ms1_1), .vec As0_1 cs0_2 25 1 ms0_3 vss0_5] [AllOwn w0.heap.size 2 vss0_5 ls0_4] w) (k0 := q5) ⟨t10.2, (w64 (xs0_8 + 1)), H, Nat.le_refl _, ht.sub ⟨rfl, rfl, rfl, rfl, rfl, rfl, rfl, rfl, rfl, rfl, rfl, rfl, rfl, rfl, rfl, rfl, rfl, rfl, rfl, rfl, rfl, rfl, rfl, rfl, rfl, rfl, rfl, rfl, rfl, trivial⟩, (hm.pick [0, 1, 2, 3] rfl (by decide)).pickφ [0] rfl⟩ ?_
      clear H ht hm
      intro q11 a w hJ
      obtain ⟨ms1_1, xs1_2, H, hqq11, ht, hm⟩ := hJ
      cases q11 with
      | zero => cases H
      | succ q11 =>
      rw [impl_Colouring_matching.l1] at H
      refine wp_seq ?_
      refine wp_seq ?_
      refine wpr ?_
      refine wpl rfl rfl ht (ev_move ht rfl rfl) ?_
      intro a ht
      refine wpl rfl rfl ht (ev_move ht rfl rfl) ?_
      intro a ht
      refine wpl rfl rfl ht (ev_nilCheck ht rfl rfl) ?_
      intro a ht
      refine wpl rfl rfl ht (ev_fieldAddr ht rfl rfl fo_28_0) ?_
      intro a ht
      refine wpl rfl rfl ht (ev_load ht rfl rfl sc_2 (hm.blk_cell 1 rfl rfl)) ?_
      intro a ht
      refine wpl rfl rfl ht (ev_cmp ht rfl rfl rfl rfl) ?_
      intro a ht
      refine wpList_nil ?_
      refine then_normal ?_
      by_cases h12 : xs1_2 < x.p
      · replace H := ite_yes h12 H
        refine wpc_yes ht rfl (decide_eq_true h12) ?_
        refine wp_skip ?_
        refine then_normal ?_
        refine wp_seq ?_
        refine wp_block ?_
        refine wp_seq ?_
        refine wpr ?_
        refine wpl rfl rfl ht (ev_move ht rfl rfl) ?_
        intro a ht
        refine wpl rfl rfl ht (ev_move ht rfl rfl) ?_
        intro a ht
        obtain ⟨u13, eu13, H⟩ := bind_get H
        refine wpl rfl rfl ht (ev_shr ht rfl rfl rfl (guardO_get eu13)) ?_
        intro a ht
        refine wpl rfl rfl ht (ev_bit ht rfl rfl rfl rfl) ?_
        intro a ht
        refine wpl rfl rfl ht (ev_cmp ht rfl rfl rfl rfl) ?_
        intro a ht
        refine wpl rfl rfl ht (ev_move ht rfl rfl) ?_
        intro a ht
        by_cases h14 : (bitop .and .i64 (shrI .i64 (bitop .andNot .i64 xs0_7 (shlI .i64 1 xs0_8)) xs1_2) 1) = 1
        · replace H := ite_yes h14 H
          refine wpl_yes rfl ht rfl ((decide_eq_true h14)) ?_
          refine wpl rfl rfl ht (ev_move ht rfl rfl) ?_
          intro a ht
          refine wpl_yes rfl ht rfl ((decide_eq_true h14)) ?_
          refine wpl rfl rfl ht (ev_move ht rfl rfl) ?_
          intro a ht
          refine wpl_yes rfl ht rfl ((decide_eq_true h14)) ?_
          refine wpl rfl rfl ht (ev_move ht rfl rfl) ?_
          intro a ht
          refine wpl_yes rfl ht rfl ((decide_eq_true h14)) ?_
          refine wpl rfl rfl ht (ev_move ht rfl rfl) ?_
          intro a ht
          refine wpl_yes rfl ht rfl ((decide_eq_true h14)) ?_
          obtain ⟨t15, et15, H⟩ := bind_get H
          have hcall := impl_Colouring_joins.calls _ _ b x xs0_8 xs1_2 c _ ((fun (hq : Ms _ _ _ ([.blk b 28 (Col.cells x)] ++ [.blk b2 66 [.pointer (some ⟨b, 0, none⟩), .int .i64 c, .map (some b1)], .kv b1 (kvI ms1_1), .vec As0_1 cs0_2 25 1 ms0_3 vss0_5]) _ _) => hq.lend (φp := []) (allRO_nil)) (hm.pick (own' := [.blk b 28 (Col.cells x)] ++ [.blk b2 66 [.pointer (some ⟨b, 0, none⟩), .int .i64 c, .map (some b1)], .kv b1 (kvI ms1_1), .vec As0_1 cs0_2 25 1 ms0_3 vss0_5]) [1, 0, 2, 3] rfl (by decide))) et15
          refine wpl_call _ rfl rfl ht rfl rfl rfl rfl can_46 hcall ?_
          clear hcall
          rintro _ w ⟨rfl, hpost⟩ a ht
          replace hm := (hm.pick (own' := [.blk b 28 (Col.cells x)] ++ [.blk b2 66 [.pointer (some ⟨b, 0, none⟩), .int .i64 c, .map (some b1)], .kv b1 (kvI ms1_1), .vec As0_1 cs0_2 25 1 ms0_3 vss0_5]) [1, 0, 2, 3] rfl (by decide)).backL hpost
          clear hpost
          refine wpl rfl rfl ht (ev_pick_yes ht rfl rfl (decide_eq_true h14) rfl) ?_
          intro a ht
          refine wpl rfl rfl ht (ev_move ht rfl rfl) ?_
          intro a ht
          by_cases h16 : t15 = true
          · replace H := ite_yes h16 H
            refine wpl_yes rfl ht rfl (h16) ?_
            refine wpl rfl rfl ht (ev_move ht rfl rfl) ?_
            intro a ht
            refine wpl_yes rfl ht rfl (h16) ?_
            refine wpl rfl rfl ht (ev_move ht rfl rfl) ?_
            intro a ht
            refine wpl_yes rfl ht rfl (h16) ?_
            refine wpl rfl rfl ht (ev_move ht rfl rfl) ?_
            intro a ht
            refine wpl_yes rfl ht rfl (h16) ?_
            obtain ⟨u17, eu17, H⟩ := bind_get H
            refine wpl rfl rfl ht (ev_shl ht rfl rfl rfl (guardO_get eu17)) ?_
            intro a ht
            refine wpl_yes rfl ht rfl (h16) ?_
            refine wpl rfl rfl ht (ev_bit ht rfl rfl rfl rfl) ?_
            intro a ht
            refine wpl_yes rfl ht rfl (h16) ?_
            obtain ⟨t18, et18, H⟩ := bind_get H
            have hcall := impl_matcher_behind.calls q11 _ _ b2 b b1 x c ms1_1 (bitop .andNot .i64 (bitop .andNot .i64 xs0_7 (shlI .i64 1 xs0_8)) (shlI .i64 1 xs1_2)) _ ((fun (hq : Ms _ _ _ ([.blk b2 66 [.pointer (some ⟨b, 0, none⟩), .int .i64 c, .map (some b1)], .blk b 28 (Col.cells x), .kv b1 (kvI ms1_1)] ++ [.vec As0_1 cs0_2 25 1 ms0_3 vss0_5]) _ _) => hq.lend (φp := []) (allRO_nil)) (hm.pick (own' := [.blk b2 66 [.pointer (some ⟨b, 0, none⟩), .int .i64 c, .map (some b1)], .blk b 28 (Col.cells x), .kv b1 (kvI ms1_1)] ++ [.vec As0_1 cs0_2 25 1 ms0_3 vss0_5]) [1, 0, 2, 3] rfl (by decide))) et18
            refine wpl_call _ rfl rfl ht rfl rfl rfl rfl can_45 hcall ?_
            clear hcall
            rintro _ w ⟨rfl, hpost⟩ a ht
            replace hm := (hm.pick (own' := [.blk b2 66 [.pointer (some ⟨b, 0, none⟩), .int .i64 c, .map (some b1)], .blk b 28 (Col.cells x), .kv b1 (kvI ms1_1)] ++ [.vec As0_1 cs0_2 25 1 ms0_3 vss0_5]) [1, 0, 2, 3] rfl (by decide)).backL hpost
            clear hpost
            refine wpl_yes rfl ht rfl (h16) ?_
            refine wpl rfl rfl ht (ev_arith ht rfl rfl rfl rfl) ?_
            intro a ht
            refine wpl_yes rfl ht rfl (h16) ?_
            refine wpl rfl rfl ht (ev_move ht rfl rfl) ?_
            intro a ht
            refine wpl_yes rfl ht rfl (h16) ?_
            refine wpl rfl rfl ht (ev_cmp ht rfl rfl rfl rfl) ?_
            intro a ht
            refine wpl rfl rfl ht (ev_pick_yes ht rfl rfl h16 rfl) ?_
            intro a ht
            refine wpList_nil ?_
            refine then_normal ?_
            by_cases h19 : (w64 (t18.1 + 1)) = t10.1
            · replace H := ite_yes h19 H
              refine wpc_yes ht rfl (decide_eq_true h19) ?_
              refine wp_seq ?_
              refine wph_begin (fun w => Ms X (fps [.blk b 28 (Col.cells x)]) w0 [.blk b2 66 [.pointer (some ⟨b, 0, none⟩), .int .i64 c, .map (some b1)], .blk b 28 (Col.cells x), .kv b1 (kvI t18.2)] [AllOwn w0.heap.size 2 vss0_5 ls0_4] w) mixed ?_
              replace hm := hm.drew
              have hS : Ms X (fps [.blk b 28 (Col.cells x)]) w0 [.blk b2 66 [.pointer (some ⟨b, 0, none⟩), .int .i64 c, .map (some b1)], .blk b 28 (Col.cells x), .kv b1 (kvI t18.2)] [AllOwn w0.heap.size 2 vss0_5 ls0_4] w.drew := (hm.pick [0, 1, 2] rfl (by decide)).pickφ [0] rfl
              generalize w.drew = w at hm hS ⊢
              refine wph_take (i := 0) rfl (by kernel_rfl) (by kernel_rfl) (by kernel_rfl) (fun _ _ _ h => h) rfl ht hS (wanted_plain rfl) (fun w hm => ev_move ht rfl rfl) ?_
              intro a ht
              refine wph_take (i := 1) rfl (by kernel_rfl) (by kernel_rfl) (by kernel_rfl) (fun _ _ _ h => h) rfl ht hS (wanted_plain rfl) (fun w hm => ev_move ht rfl rfl) ?_
              intro a ht
              refine wph_take (i := 2) rfl (by kernel_rfl) (by kernel_rfl) (by kernel_rfl) (fun _ _ _ h => h) rfl ht hS (wanted_plain rfl) (fun w hm => ev_move ht rfl rfl) ?_
              intro a ht
              refine wph_take (i := 6) rfl (by kernel_rfl) (by kernel_rfl) (by kernel_rfl) (fun _ _ _ h => h) rfl ht hS (wanted_plain rfl) (fun w hm => ev_move ht rfl rfl) ?_
              intro a ht
              refine wph_take (i := 7) rfl (by kernel_rfl) (by kernel_rfl) (by kernel_rfl) (fun _ _ _ h => h) rfl ht hS (wanted_plain rfl) (fun w hm => ev_move ht rfl rfl) ?_
              intro a ht
              obtain ⟨u8520, eu8520, H⟩ := bind_get H
              refine wph_take (i := 8) rfl (by kernel_rfl) (by kernel_rfl) (by kernel_rfl) (fun _ _ _ h => h) rfl ht hS (wanted_plain rfl) (fun w hm => ev_shl ht rfl rfl rfl (guardO_get eu8520)) ?_
              intro a ht
              refine wph_take (i := 9) rfl (by kernel_rfl) (by kernel_rfl) (by kernel_rfl) (fun _ _ _ h => h) rfl ht hS (wanted_plain rfl) (fun w hm => ev_bit ht rfl rfl rfl rfl) ?_
              intro a ht
              refine wph_one (i := 3) (by kernel_rfl) (wph_step rfl ?_)
              refine wpl_build_ints (l := [xs0_8, xs1_2]) rfl rfl ht hm rfl und_25 zo_2 sz1_2 (by decide) rfl rfl rfl ?_
              intro A3520 a ht w hm
              have hS : Ms X (fps [.blk b 28 (Col.cells x)]) w0 [.blk b2 66 [.pointer (some ⟨b, 0, none⟩), .int .i64 c, .map (some b1)], .blk b 28 (Col.cells x), .kv b1 (kvI t18.2)] [AllOwn w0.heap.size 2 vss0_5 ls0_4] w := (hm.pick [1, 2, 3] rfl (by decide)).pickφ [0] rfl
              refine wpList_nil (qn ⟨hS, ?_⟩)
              refine wph_one (i := 4) (by kernel_rfl) (wph_step rfl ?_)
              replace hm : Ms _ _ _ _ (NewTo A3520 2 vss0_5 :: _) w := hm.addφ (hm.newTo 0 0 rfl rfl)
              replace hm : Ms _ _ _ _ (OwnAt w0.heap.size 2 A3520 2 2 ([xs0_8, xs1_2]) :: _) w := hm.shutOwn 0 (hm.ownGe 0 (Nat.le_refl _) (srcIn 1 rfl rfl srcNil) rfl) rfl
              replace hm : Ms _ _ _ _ (AllOwn w0.heap.size 2 ([.slice A3520 2 2]) ([[xs0_8, xs1_2]]) :: _) w := hm.addφ (allOwn_one (hm.ro 0 rfl))
              refine wpl_buildSlice (vs := [.slice A3520 2 2]) rfl rfl ht hm rfl und_33 zo_25 sz1_25 (by decide) rfl rfl rfl ?_
              intro A4520 a ht w hm
              have hS : Ms X (fps [.blk b 28 (Col.cells x)]) w0 [.blk b2 66 [.pointer (some ⟨b, 0, none⟩), .int .i64 c, .map (some b1)], .blk b 28 (Col.cells x), .kv b1 (kvI t18.2)] [AllOwn w0.heap.size 2 vss0_5 ls0_4] w := (hm.pick [1, 2, 3] rfl (by decide)).pickφ [3] rfl
              refine wpList_nil (qn ⟨hS, ?_⟩)
              refine wph_one (i := 5) (by kernel_rfl) (wph_step rfl ?_)
              obtain ⟨l5523, el5523, H⟩ := bind_get H
              replace hm : Ms _ _ _ _ (AllOwn w0.heap.size 2 (vss0_5 ++ ([.slice A3520 2 2])) l5523 :: _) w := hm.addφ (allOwn_append el5523 (hm.ro 3 rfl) (hm.ro 0 rfl) (newTo_one (hm.fact (φ := NewTo A3520 2 vss0_5) 2 rfl)))
              refine wpl_concat_rowsO (r := l5523) 4 0 rfl rfl ht hm rfl ap_33 rfl rfl rfl rfl (hm.rowsOfO 4 4 rfl rfl) (hm.rowsOfO 0 1 rfl rfl) el5523 ?_
              intro A5520 c5521 m5522 a ht w hm
              have hS : Ms X (fps [.blk b 28 (Col.cells x)]) w0 [.blk b2 66 [.pointer (some ⟨b, 0, none⟩), .int .i64 c, .map (some b1)], .blk b 28 (Col.cells x), .kv b1 (kvI t18.2)] [AllOwn w0.heap.size 2 vss0_5 ls0_4] w := (hm.pick [1, 2, 3] rfl (by decide)).pickφ [4] rfl
              refine wpList_nil (qn ⟨hS, ?_⟩)
              refine wph_take (i := 10) rfl (by kernel_rfl) (by kernel_rfl) (by kernel_rfl) (fun _ _ _ h => h) rfl ht hS (wanted_plain rfl) (fun w hm => ev_assign ht rfl rfl) ?_
              intro a ht
              refine wph_take (i := 11) rfl (by kernel_rfl) (by kernel_rfl) (by kernel_rfl) (fun _ _ _ h => h) rfl ht hS (wanted_plain rfl) (fun w hm => ev_assign ht rfl rfl) ?_
              intro a ht
              refine wph_done (by kernel_rfl) ?_
              refine then_normal ?_
              refine wp_exit ?_
              refine blk_miss (by decide) ?_
              refine then_exit ?_
              refine then_exit ?_
              refine blk_hit ?_
              refine blk_normal ?_
              refine then_normal ?_
              refine wpr ?_
              refine wpl rfl rfl ht (ev_arith ht rfl rfl rfl rfl) ?_
              intro a ht
              refine wpl rfl rfl ht (ev_move ht rfl rfl) ?_
              intro a ht
              refine wpList_nil ?_
              exact then_normal ⟨q11, by omega, l5523, t18.2, (bitop .andNot .i64 (bitop .andNot .i64 xs0_7 (shlI .i64 1 xs0_8)) (shlI .i64 1 xs1_2)), (w64 (xs0_8 + 1)), A5520, c5521, m5522, (vss0_5 ++ ([.slice A3520 2 2])), H, by omega, ht.sub ⟨rfl, rfl, rfl, rfl, rfl, rfl, rfl, rfl, trivial⟩, (hm.pick [4, 1, 3, 2] rfl (by decide)).pickφ [0] rfl⟩
            · replace H := ite_no h19 H
              refine wpc_no ht rfl (decide_eq_false h19) ?_
              refine wp_skip ?_
              refine blk_normal ?_
              refine then_normal ?_
              refine wpr ?_
              refine wpl rfl rfl ht (ev_move ht rfl rfl) ?_
              intro a ht
              refine wpl rfl rfl ht (ev_arith ht rfl rfl rfl rfl) ?_
              intro a ht
              refine wpl rfl rfl ht (ev_assign ht rfl rfl) ?_
              intro a ht
              refine wpList_nil ?_
              exact then_normal ⟨q11, by omega, t18.2, (w64 (xs1_2 + 1)), H, by omega, ht.sub ⟨rfl, rfl, rfl, rfl, rfl, rfl, rfl, rfl, rfl, rfl, rfl, rfl, rfl, rfl, rfl, rfl, rfl, rfl, rfl, rfl, rfl, rfl, rfl, rfl, rfl, rfl, rfl, rfl, rfl, trivial⟩, (hm.pick [0, 1, 2, 3] rfl (by decide)).pickφ [0] rfl⟩
          · replace H := ite_no h16 H
            refine wpl_no rfl rfl ht rfl (by rw [(Bool.eq_false_iff.mpr h16)]; decide) ?_
            intro a ht
            refine wpl_no rfl rfl ht rfl (by rw [(Bool.eq_false_iff.mpr h16)]; decide) ?_
            intro a ht
            refine wpl_no rfl rfl ht rfl (by rw [(Bool.eq_false_iff.mpr h16)]; decide) ?_
            intro a ht
            refine wpl_no rfl rfl ht rfl (by rw [(Bool.eq_false_iff.mpr h16)]; decide) ?_
            intro a ht
            refine wpl_no rfl rfl ht rfl (by rw [(Bool.eq_false_iff.mpr h16)]; decide) ?_
            intro a ht
            refine wpl_no rfl rfl ht rfl (by rw [(Bool.eq_false_iff.mpr h16)]; decide) ?_
            intro a ht
            refine wpl_no rfl rfl ht rfl (by rw [(Bool.eq_false_iff.mpr h16)]; decide) ?_
            intro a ht
            refine wpl_no rfl rfl ht rfl (by rw [(Bool.eq_false_iff.mpr h16)]; decide) ?_
            intro a ht
            refine wpl_no rfl rfl ht rfl (by rw [(Bool.eq_false_iff.mpr h16)]; decide) ?_
            intro a ht
            refine wpl rfl rfl ht (ev_pick_no ht rfl rfl (Bool.eq_false_iff.mpr h16) rfl) ?_
            intro a ht
            refine wpList_nil ?_
            refine then_normal ?_
            refine wpc_no ht rfl rfl ?_
            refine wp_skip ?_
            refine blk_normal ?_
            refine then_normal ?_
            refine wpr ?_
            refine wpl rfl rfl ht (ev_move ht rfl rfl) ?_
            intro a ht
            refine wpl rfl rfl ht (ev_arith ht rfl rfl rfl rfl) ?_
            intro a ht
            refine wpl rfl rfl ht (ev_assign ht rfl rfl) ?_
            intro a ht
            refine wpList_nil ?_
            exact then_normal ⟨q11, by omega, ms1_1, (w64 (xs1_2 + 1)), H, by omega, ht.sub ⟨rfl, rfl, rfl, rfl, rfl, rfl, rfl, rfl, rfl, rfl, rfl, rfl, rfl, rfl, rfl, rfl, rfl, rfl, rfl, rfl, rfl, rfl, rfl, rfl, rfl, rfl, rfl, rfl, rfl, trivial⟩, (hm.pick [1, 0, 2, 3] rfl (by decide)).pickφ [0] rfl⟩
        · replace H := ite_no h14 H
          refine wpl_no rfl rfl ht rfl (by rw [(decide_eq_false h14)]; decide) ?_
          intro a ht
          refine wpl_no rfl rfl ht rfl (by rw [(decide_eq_false h14)]; decide) ?_
          intro a ht
          refine wpl_no rfl rfl ht rfl (by rw [(decide_eq_false h14)]; decide) ?_
          intro a ht
          refine wpl_no rfl rfl ht rfl (by rw [(decide_eq_false h14)]; decide) ?_
          intro a ht
          refine wpl_no rfl rfl ht rfl (by rw [(decide_eq_false h14)]; decide) ?_
          intro a ht
          refine wpl rfl rfl ht (ev_pick_no ht rfl rfl (decide_eq_false h14) rfl) ?_
          intro a ht
          refine wpl rfl rfl ht (ev_move ht rfl rfl) ?_
          intro a ht
          refine wpl_no rfl rfl ht rfl (by decide) ?_
          intro a ht
          refine wpl_no rfl rfl ht rfl (by decide) ?_
          intro a ht
          refine wpl_no rfl rfl ht rfl (by decide) ?_
          intro a ht
          refine wpl_no rfl rfl ht rfl (by decide) ?_
          intro a ht
          refine wpl_no rfl rfl ht rfl (by decide) ?_
          intro a ht
          refine wpl_no rfl rfl ht rfl (by decide) ?_
          intro a ht
          refine wpl_no rfl rfl ht rfl (by decide) ?_
          intro a ht
          refine wpl_no rfl rfl ht rfl (by decide) ?_
          intro a ht
          refine wpl_no rfl rfl ht rfl (by decide) ?_
          intro a ht
          refine wpl rfl rfl ht (ev_pick_no ht rfl rfl rfl rfl) ?_
          intro a ht
          refine wpList_nil ?_
          refine then_normal ?_
          refine wpc_no ht rfl rfl ?_
          refine wp_skip ?_
          refine blk_normal ?_
          refine then_normal ?_
          refine wpr ?_
          refine wpl rfl rfl ht (ev_move ht rfl rfl) ?_
          intro a ht
          refine wpl rfl rfl ht (ev_arith ht rfl rfl rfl rfl) ?_
          intro a ht
          refine wpl rfl rfl ht (ev_assign ht rfl rfl) ?_
          intro a ht
          refine wpList_nil ?_
          exact then_normal ⟨q11, by omega, ms1_1, (w64 (xs1_2 + 1)), H, by omega, ht.sub ⟨rfl, rfl, rfl, rfl, rfl, rfl, rfl, rfl, rfl, rfl, rfl, rfl, rfl, rfl, rfl, rfl, rfl, rfl, rfl, rfl, rfl, rfl, rfl, rfl, rfl, rfl, rfl, rfl, rfl, trivial⟩, (hm.pick [0, 1, 2, 3] rfl (by decide)).pickφ [0] rfl⟩
      · replace H := ite_no h12 H
        refine wpc_no ht rfl (decide_eq_false h12) ?_
        refine wp_exit ?_
        refine then_exit ?_
        refine then_exit ?_
        refine blk_hit ?_
        refine blk_normal ?_
        refine then_normal ?_
        refine wpr ?_
        refine wpl rfl rfl ht (ev_arith ht rfl rfl rfl rfl) ?_
        intro a ht
        refine wpl rfl rfl ht (ev_move ht rfl rfl) ?_
        intro a ht
        refine wpList_nil ?_
        exact then_normal ⟨q11, by omega, ls0_4, ms1_1, (bitop .andNot .i64 xs0_7 (shlI .i64 1 xs0_8)), (w64 (xs0_8 + 1)), As0_1, cs0_2, ms0_3, vss0_5, H, by omega, ht.sub ⟨rfl, rfl, rfl, rfl, rfl, rfl, rfl, rfl, trivial⟩, (hm.pick [3, 0, 2, 1] rfl (by decide)).pickφ [0] rfl⟩
  · replace H := ite_no h6 H
    refine wpc_no ht rfl (decide_eq_false h6) ?_
    refine wp_exit ?_
    refine then_exit ?_
    refine then_exit ?_
    refine blk_hit ?_
    refine then_normal ?_
    refine wp_seq ?_
    refine wpr ?_
    refine wpl rfl rfl ht (ev_move ht rfl rfl) ?_
    intro a ht
    refine wpl rfl rfl ht (ev_assign ht rfl rfl) ?_
    intro a ht
    refine wpList_nil ?_
    refine then_normal ?_
    refine wp_ret ?_
    have hres := ht.res (P := Try.prog) (w := w) (rs := [.tmp 4]) (vs := [.slice As0_1 ms0_3 cs0_2]) (.tmp rfl .nil)
    replace hm := hm.gather (E2 := 2) 0 0 (Nat.le_refl _) rfl rfl
    obtain rfl := Option.some.inj H
    exact leave ht rfl hres ⟨As0_1, cs0_2, ms0_3, vss0_5, rfl, ((hm.pick [0, 3] rfl (by decide)).pickφ [] rfl).post fun _ h => h⟩

/-! ### impl_GreatestMatching: function 14 (loop.example/g01362/impl.GreatestMatching) -/
def impl_GreatestMatching.f (k : Nat) (x : Col) (c : Int) : Option (List (List Int) × Int) := (impl_Colouring_colourCode.f k x c true).bind fun t2 => if t2 ≠ 0 then (some (([] : List (List Int)), t2)) else ((impl_Colouring_matching.f k x c).bind fun t5 => some (t5, 0))
set_option maxRecDepth 100000 in
set_option maxHeartbeats 1000000 in
theorem impl_GreatestMatching.calls (k : Nat) (X : List Nat) (w0 : World)  (x : Col) (c : Int) (r : List (List Int) × Int)
    (hp : Pre X w0 [] []) (H : impl_GreatestMatching.f k x c = some r) :
    Calls Try.prog 14 [.agg (Col.cells x).toArray, .int .i64 c].toArray w0 (Ret fun v w => ∃ (A_0 : Option Addr) (c_0 : Nat) (n_0 : Nat) (vs_0 : List Value), v = .tuple [.slice A_0 n_0 c_0, .int .i64 r.2].toArray ∧ Post X (fps []) w0 [.vecs A_0 c_0 25 2 n_0 vs_0 r.1] [] w) := by
  unfold impl_GreatestMatching.f at H
  refine enterM (n := 14) hp Try.func14 rfl rfl (Nat.le_of_ble_eq_true rfl) fun a w ht hm => ?_
  refine wp_seq ?_
  refine wpr ?_
  refine wpl_box rfl rfl ht hm rfl rfl rfl ?_
  intro b1 a ht w hm
  refine wpl rfl rfl ht (ev_assign ht rfl rfl) ?_
  intro a ht
  refine wpl rfl rfl ht (ev_assign ht rfl rfl) ?_
  intro a ht
  refine wpList_nil ?_
  refine then_normal ?_
  refine wp_seq ?_
  refine wp_seq ?_
  refine wpr ?_
  refine wpl rfl rfl ht (ev_move ht rfl rfl) ?_
  intro a ht
  obtain ⟨t2, et2, H⟩ := bind_get H
  have hcall := impl_Colouring_colourCode.calls k _ _ b1 x c true _ ((fun (hq : Ms _ _ _ ([.blk b1 28 (Col.cells x)] ++ []) _ _) => hq.lend (φp := []) (allRO_nil)) (hm.pick (own' := [.blk b1 28 (Col.cells x)] ++ []) [0] rfl (by decide))) et2
  refine wpl_call _ rfl rfl ht rfl rfl rfl rfl can_29 hcall ?_
  clear hcall
  rintro _ w ⟨rfl, hpost⟩ a ht
  replace hm := (hm.pick (own' := [.blk b1 28 (Col.cells x)] ++ []) [0] rfl (by decide)).backL hpost
  clear hpost
  refine wpl rfl rfl ht (ev_assign ht rfl rfl) ?_
  intro a ht
  refine wpList_nil ?_
  refine then_normal ?_
  refine wp_seq ?_
  refine wpr ?_
  refine wpl rfl rfl ht (ev_move ht rfl rfl) ?_
  intro a ht
  refine wpl rfl rfl ht (ev_cmp ht rfl rfl rfl rfl) ?_
  intro a ht
  refine wpList_nil ?_
  refine then_normal ?_
  by_cases h3 : t2 ≠ 0
  · replace H := ite_yes h3 H
    refine wpc_yes ht rfl (decide_eq_true h3) ?_
    refine wp_seq ?_
    refine wpr ?_
    refine wpl rfl rfl ht (ev_move ht rfl rfl) ?_
    intro a ht
    refine wpl rfl rfl ht (ev_assign ht rfl rfl) ?_
    intro a ht
    refine wpl rfl rfl ht (ev_assign ht rfl rfl) ?_
    intro a ht
    refine wpList_nil ?_
    refine then_normal ?_
    refine wp_ret ?_
    refine then_ret ?_
    have hres := ht.res (P := Try.prog) (w := w) (rs := [.tmp 4, .tmp 5]) (vs := [.slice none 0 0, .int .i64 t2]) (.tmp rfl (.tmp rfl .nil))
    replace hm : Ms _ _ _ (.vecs none 0 25 2 0 ([]) ([] : List (List Int)) :: _) _ w := hm.nilVecs none 25 2
    obtain rfl := Option.some.inj H
    exact leave ht rfl hres ⟨none, 0, 0, [], rfl, ((hm.pick [0] rfl (by decide)).pickφ [] rfl).post fun _ h => h⟩
  · replace H := ite_no h3 H
    refine wpc_no ht rfl (decide_eq_false h3) ?_
    refine wp_skip ?_
    refine then_normal ?_
    refine wp_seq ?_
    refine wpr ?_
    refine wpl rfl rfl ht (ev_move ht rfl rfl) ?_
    intro a ht
    obtain ⟨t5, et5, H⟩ := bind_get H
    have hcall := impl_Colouring_matching.calls k _ _ b1 x c _ ((fun (hq : Ms _ _ _ ([.blk b1 28 (Col.cells x)] ++ []) _ _) => hq.lend (φp := []) (allRO_nil)) (hm.pick (own' := [.blk b1 28 (Col.cells x)] ++ []) [0] rfl (by decide))) et5
    refine wpl_call _ rfl rfl ht rfl rfl rfl rfl can_30 hcall ?_
    clear hcall
    rintro _ w ⟨A6, c7, m8, vs9, rfl, hpost⟩ a ht
    replace hm := (hm.pick (own' := [.blk b1 28 (Col.cells x)] ++ []) [0] rfl (by decide)).backL hpost
    clear hpost
    refine wpl rfl rfl ht (ev_assign ht rfl rfl) ?_
    intro a ht
    refine wpl rfl rfl ht (ev_assign ht rfl rfl) ?_
    intro a ht
    refine wpList_nil ?_
    refine then_normal ?_
    refine wp_ret ?_
    have hres := ht.res (P := Try.prog) (w := w) (rs := [.tmp 4, .tmp 5]) (vs := [.slice A6 m8 c7, .int .i64 0]) (.tmp rfl (.tmp rfl .nil))
    obtain rfl := Option.some.inj H
    exact leave ht rfl hres ⟨A6, c7, m8, vs9, rfl, ((hm.pick [0] rfl (by decide)).pickφ [] rfl).post fun _ h => h⟩

/-! ### laws_eqInt64S: function 10 (loop.example/g01362/laws.eqInt64S) -/
def laws_eqInt64S.l0 : Nat → List Int → List Int → Int → Option (Bool)
  | 0, _, _, _ => none
  | q2 + 1, a_, b, xs0_1 => if xs0_1 < (a_.length : Int) then ((getI a_ xs0_1).bind fun t4 => (getI b xs0_1).bind fun t5 => if t4 ≠ t5 then (some false) else (laws_eqInt64S.l0 q2 a_ b (w64 (xs0_1 + 1)))) else (some true)
def laws_eqInt64S.f (k : Nat) (a_ : List Int) (b : List Int) : Option (Bool) := if (a_.length : Int) ≠ (b.length : Int) then (some false) else (laws_eqInt64S.l0 k a_ b 0)
set_option maxRecDepth 100000 in
set_option maxHeartbeats 1000000 in
theorem laws_eqInt64S.calls (k : Nat) (X : List Nat) (w0 : World) (A : Option Addr) (c : Nat) (m : Nat) (A2 : Option Addr) (c2 : Nat) (m2 : Nat) (a_ : List Int) (b : List Int) (r : Bool)
    (hp : Pre X w0 [] [IntsAt A c m a_, IntsAt A2 c2 m2 b]) (H : laws_eqInt64S.f k a_ b = some r) :
    Calls Try.prog 10 [.slice A m c, .slice A2 m2 c2].toArray w0 (Ret fun v w => v = .bool r ∧ Post X (fps []) w0 [] [] w) := by
  unfold laws_eqInt64S.f at H
  refine enterM (n := 26) hp Try.func10 rfl rfl (Nat.le_of_ble_eq_true rfl) fun a w ht hm => ?_
  refine wp_seq ?_
  refine wpr ?_
  refine wpl rfl rfl ht (ev_assign ht rfl rfl) ?_
  intro a ht
  refine wpList_nil ?_
  refine then_normal ?_
  refine wp_seq ?_
  refine wp_seq ?_
  refine wpr ?_
  refine wpl rfl rfl ht (ev_move ht rfl rfl) ?_
  intro a ht
  refine wpl rfl rfl ht (ev_len_of ht rfl rfl und_25 (hm.fact (φ := IntsAt A c m a_) 0 rfl)) ?_
  intro a ht
  refine wpl rfl rfl ht (ev_move ht rfl rfl) ?_
  intro a ht
  refine wpl rfl rfl ht (ev_len_of ht rfl rfl und_25 (hm.fact (φ := IntsAt A2 c2 m2 b) 1 rfl)) ?_
  intro a ht
  refine wpl rfl rfl ht (ev_cmp ht rfl rfl rfl rfl) ?_
  intro a ht
  refine wpList_nil ?_
  refine then_normal ?_
  by_cases h1 : (a_.length : Int) ≠ (b.length : Int)
  · replace H := ite_yes h1 H
    refine wpc_yes ht rfl (decide_eq_true h1) ?_
    refine wp_seq ?_
    refine wpr ?_
    refine wpl rfl rfl ht (ev_assign ht rfl rfl) ?_
    intro a ht
    refine wpList_nil ?_
    refine then_normal ?_
    refine wp_ret ?_
    refine then_ret ?_
    have hres := ht.res (P := Try.prog) (w := w) (rs := [.tmp 4]) (vs := [.bool false]) (.tmp rfl .nil)
    obtain rfl := Option.some.inj H
    exact leave ht rfl hres ⟨rfl, ((hm.pick [] rfl (by decide)).pickφ [] rfl).post fun _ h => h⟩
  · replace H := ite_no h1 H
    refine wpc_no ht rfl (decide_eq_false h1) ?_
    refine wp_skip ?_
    refine then_normal ?_
    refine wp_seq ?_
    refine wp_seq ?_
    refine wpr ?_
    refine wpl rfl rfl ht (ev_assign ht rfl rfl) ?_
    intro a ht
    refine wpList_nil ?_
    refine then_normal ?_
    refine wp_block ?_
    refine wpLoop (fun q a w => ∃ (xs0_1 : Int), laws_eqInt64S.l0 q a_ b xs0_1 = some r ∧ q ≤ k ∧ Tm 26 [(0, .slice A m c), (1, .slice A2 m2 c2), (4, .bool false), (5, .int .i64 xs0_1)] a ∧ Ms X (fps []) w0 [] [IntsAt A c m a_, IntsAt A2 c2 m2 b] w) (k0 := k) ⟨0, H, Nat.le_refl _, ht.sub ⟨rfl, rfl, rfl, rfl, trivial⟩, (hm.pick [] rfl (by decide)).pickφ [0, 1] rfl⟩ ?_
    clear H ht hm
    intro q2 a w hJ
    obtain ⟨xs0_1, H, hqq2, ht, hm⟩ := hJ
    cases q2 with
    | zero => cases H
    | succ q2 =>
    rw [laws_eqInt64S.l0] at H
    refine wp_seq ?_
    refine wp_seq ?_
    refine wpr ?_
    refine wpl rfl rfl ht (ev_move ht rfl rfl) ?_
    intro a ht
    refine wpl rfl rfl ht (ev_move ht rfl rfl) ?_
    intro a ht
    refine wpl rfl rfl ht (ev_len_of ht rfl rfl und_25 (hm.fact (φ := IntsAt A c m a_) 0 rfl)) ?_
    intro a ht
    refine wpl rfl rfl ht (ev_cmp ht rfl rfl rfl rfl) ?_
    intro a ht
    refine wpList_nil ?_
    refine then_normal ?_
    by_cases h3 : xs0_1 < (a_.length : Int)
    · replace H := ite_yes h3 H
      refine wpc_yes ht rfl (decide_eq_true h3) ?_
      refine wp_skip ?_
      refine then_normal ?_
      refine wp_seq ?_
      refine wp_block ?_
      refine wp_seq ?_
      refine wph_begin (fun w => Ms X (fps []) w0 [] [IntsAt A c m a_, IntsAt A2 c2 m2 b] w) mixed ?_
      replace hm := hm.drew
      have hS : Ms X (fps []) w0 [] [IntsAt A c m a_, IntsAt A2 c2 m2 b] w.drew := (hm.pick [] rfl (by decide)).pickφ [0, 1] rfl
      generalize w.drew = w at hm hS ⊢
      refine wph_take (i := 0) rfl (by kernel_rfl) (by kernel_rfl) (by kernel_rfl) (fun _ _ _ h => h) rfl ht hS (wanted_plain rfl) (fun w hm => ev_move ht rfl rfl) ?_
      intro a ht
      refine wph_take (i := 1) rfl (by kernel_rfl) (by kernel_rfl) (by kernel_rfl) (fun _ _ _ h => h) rfl ht hS (wanted_plain rfl) (fun w hm => ev_move ht rfl rfl) ?_
      intro a ht
      obtain ⟨t4, et4, H⟩ := bind_get H
      refine wph_take (i := 2) rfl (by kernel_rfl) (by kernel_rfl) (by kernel_rfl) (fun _ _ _ h => h) rfl ht hS (wanted_plain rfl) (fun w hm => ev_index_ints ht rfl rfl rfl so_25 (hm.fact (φ := IntsAt A c m a_) 0 rfl) et4) ?_
      intro a ht
      refine wph_take (i := 3) rfl (by kernel_rfl) (by kernel_rfl) (by kernel_rfl) (fun _ _ _ h => h) rfl ht hS (wanted_plain rfl) (fun w hm => ev_load ht rfl rfl sc_2 (RowAt.cell (hm.fact (φ := IntsAt A c m a_) 0 rfl) (ints_get et4) rfl)) ?_
      intro a ht
      refine wph_take (i := 4) rfl (by kernel_rfl) (by kernel_rfl) (by kernel_rfl) (fun _ _ _ h => h) rfl ht hS (wanted_plain rfl) (fun w hm => ev_move ht rfl rfl) ?_
      intro a ht
      refine wph_take (i := 5) rfl (by kernel_rfl) (by kernel_rfl) (by kernel_rfl) (fun _ _ _ h => h) rfl ht hS (wanted_plain rfl) (fun w hm => ev_move ht rfl rfl) ?_
      intro a ht
      obtain ⟨t5, et5, H⟩ := bind_get H
      refine wph_take (i := 6) rfl (by kernel_rfl) (by kernel_rfl) (by kernel_rfl) (fun _ _ _ h => h) rfl ht hS (wanted_plain rfl) (fun w hm => ev_index_ints ht rfl rfl rfl so_25 (hm.fact (φ := IntsAt A2 c2 m2 b) 1 rfl) et5) ?_
      intro a ht
      refine wph_take (i := 7) rfl (by kernel_rfl) (by kernel_rfl) (by kernel_rfl) (fun _ _ _ h => h) rfl ht hS (wanted_plain rfl) (fun w hm => ev_load ht rfl rfl sc_2 (RowAt.cell (hm.fact (φ := IntsAt A2 c2 m2 b) 1 rfl) (ints_get et5) rfl)) ?_
      intro a ht
      refine wph_take (i := 8) rfl (by kernel_rfl) (by kernel_rfl) (by kernel_rfl) (fun _ _ _ h => h) rfl ht hS (wanted_plain rfl) (fun w hm => ev_cmp ht rfl rfl rfl rfl) ?_
      intro a ht
      refine wph_done (by kernel_rfl) ?_
      refine then_normal ?_
      by_cases h6 : t4 ≠ t5
      · replace H := ite_yes h6 H
        refine wpc_yes ht rfl (decide_eq_true h6) ?_
        refine wp_seq ?_
        refine wpr ?_
        refine wpl rfl rfl ht (ev_assign ht rfl rfl) ?_
        intro a ht
        refine wpList_nil ?_
        refine then_normal ?_
        refine wp_ret ?_
        refine blk_ret ?_
        refine then_ret ?_
        refine then_ret ?_
        refine blk_ret ?_
        refine then_ret ?_
        have hres := ht.res (P := Try.prog) (w := w) (rs := [.tmp 4]) (vs := [.bool false]) (.tmp rfl .nil)
        obtain rfl := Option.some.inj H
        exact leave ht rfl hres ⟨rfl, ((hm.pick [] rfl (by decide)).pickφ [] rfl).post fun _ h => h⟩
      · replace H := ite_no h6 H
        refine wpc_no ht rfl (decide_eq_false h6) ?_
        refine wp_skip ?_
        refine blk_normal ?_
        refine then_normal ?_
        refine wpr ?_
        refine wpl rfl rfl ht (ev_move ht rfl rfl) ?_
        intro a ht
        refine wpl rfl rfl ht (ev_arith ht rfl rfl rfl rfl) ?_
        intro a ht
        refine wpl rfl rfl ht (ev_assign ht rfl rfl) ?_
        intro a ht
        refine wpList_nil ?_
        exact then_normal ⟨q2, by omega, (w64 (xs0_1 + 1)), H, by omega, ht.sub ⟨rfl, rfl, rfl, rfl, trivial⟩, (hm.pick [] rfl (by decide)).pickφ [0, 1] rfl⟩
    · replace H := ite_no h3 H
      refine wpc_no ht rfl (decide_eq_false h3) ?_
      refine wp_exit ?_
      refine then_exit ?_
      refine then_exit ?_
      refine blk_hit ?_
      refine then_normal ?_
      refine wp_seq ?_
      refine wpr ?_
      refine wpl rfl rfl ht (ev_assign ht rfl rfl) ?_
      intro a ht
      refine wpList_nil ?_
      refine then_normal ?_
      refine wp_ret ?_
      have hres := ht.res (P := Try.prog) (w := w) (rs := [.tmp 4]) (vs := [.bool true]) (.tmp rfl .nil)
      obtain rfl := Option.some.inj H
      exact leave ht rfl hres ⟨rfl, ((hm.pick [] rfl (by decide)).pickφ [] rfl).post fun _ h => h⟩

end Go.Proofs.Ytjhcacfhahpdgaa.G
