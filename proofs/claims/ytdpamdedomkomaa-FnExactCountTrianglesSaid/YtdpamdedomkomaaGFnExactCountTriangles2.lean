/- What each Go function computes, as a Lean function, and the proof that it does: written by a program of this session (wip/gen), part 2. -/
import Derived.Test.YtdpamdedomkomaaGFnExactCountTriangles1
namespace Go.Proofs.Ytdpamdedomkomaa.G
open Go Go.RowKit Go.Proofs.Ytdpamdedomkomaa.K
set_option linter.unusedVariables false
set_option linter.unusedSimpArgs false

/-! ### spec_l01Around: function 103 (loop.example/g01362/spec.l01Around) -/
def spec_l01Around.l0 : Nat → Col → Int → Int → Int → Int → Option (Int)
  | 0, _, _, _, _, _ => none
  | q2 + 1, x, i, c, xs0_1, xs0_2 => if xs0_2 < x.p then (if xs0_2 ≠ i then ((spec_l01At.f x i xs0_2).bind fun t5 => if t5 = c then (spec_l01Around.l0 q2 x i c (bitop .or .i64 xs0_1 (shlI .i64 1 (wu64 xs0_2))) (w64 (xs0_2 + 1))) else (spec_l01Around.l0 q2 x i c xs0_1 (w64 (xs0_2 + 1)))) else (spec_l01Around.l0 q2 x i c xs0_1 (w64 (xs0_2 + 1)))) else (some xs0_1)
def spec_l01Around.f (k : Nat) (x : Col) (i : Int) (c : Int) : Option (Int) := spec_l01Around.l0 k x i c 0 0
set_option maxRecDepth 100000 in
set_option maxHeartbeats 1000000 in
theorem spec_l01Around.calls (k : Nat) (X : List Nat) (w0 : World)  (x : Col) (i : Int) (c : Int) (r : Int)
    (hp : Pre X w0 [] []) (H : spec_l01Around.f k x i c = some r) :
    Calls Try.prog 103 [.agg (Col.cells x).toArray, .int .i64 i, .int .i64 c].toArray w0 (Ret fun v w => v = .int .i64 r ∧ Post X (fps []) w0 [] [] w) := by
  unfold spec_l01Around.f at H
  refine enterM (n := 32) hp Try.func103 rfl rfl (Nat.le_of_ble_eq_true rfl) fun a w ht hm => ?_
  refine wp_seq ?_
  refine wpr ?_
  refine wpl_box rfl rfl ht hm rfl rfl rfl ?_
  intro b1 a ht w hm
  refine wpl rfl rfl ht (ev_assign ht rfl rfl) ?_
  intro a ht
  refine wpList_nil ?_
  refine then_normal ?_
  refine wp_seq ?_
  refine wpr ?_
  refine wpl rfl rfl ht (ev_assign ht rfl rfl) ?_
  intro a ht
  refine wpList_nil ?_
  refine then_normal ?_
  refine wp_seq ?_
  refine wp_seq ?_
  refine wpr ?_
  refine wpl rfl rfl ht (ev_assign ht rfl rfl) ?_
  intro a ht
  refine wpList_nil ?_
  refine then_normal ?_
  refine wp_block ?_
  refine wpLoop (fun q a w => ∃ (xs0_1 : Int) (xs0_2 : Int), spec_l01Around.l0 q x i c xs0_1 xs0_2 = some r ∧ q ≤ k ∧ Tm 32 [(1, .int .i64 i), (2, .int .i64 c), (3, .pointer (some ⟨b1, 0, none⟩)), (6, .int .i64 0), (7, .int .i64 xs0_1), (8, .int .i64 xs0_2)] a ∧ Ms X (fps []) w0 [.blk b1 28 (Col.cells x)] [] w) (k0 := k) ⟨0, 0, H, Nat.le_refl _, ht.sub ⟨rfl, rfl, rfl, rfl, rfl, rfl, trivial⟩, (hm.pick [0] rfl (by decide)).pickφ [] rfl⟩ ?_
  clear H ht hm
  intro q2 a w hJ
  obtain ⟨xs0_1, xs0_2, H, hqq2, ht, hm⟩ := hJ
  cases q2 with
  | zero => cases H
  | succ q2 =>
  rw [spec_l01Around.l0] at H
  refine wp_seq ?_
  refine wp_seq ?_
  refine wpr ?_
  refine wpl rfl rfl ht (ev_move ht rfl rfl) ?_
  intro a ht
  refine wpl rfl rfl ht (ev_fieldAddr ht rfl rfl fo_28_0) ?_
  intro a ht
  refine wpl rfl rfl ht (ev_load ht rfl rfl sc_2 (hm.blk_cell 0 rfl rfl)) ?_
  intro a ht
  refine wpl rfl rfl ht (ev_cmp ht rfl rfl rfl rfl) ?_
  intro a ht
  refine wpList_nil ?_
  refine then_normal ?_
  by_cases h3 : xs0_2 < x.p
  · replace H := ite_yes h3 H
    refine wpc_yes ht rfl (decide_eq_true h3) ?_
    refine wp_skip ?_
    refine then_normal ?_
    refine wp_seq ?_
    refine wp_block ?_
    refine wp_seq ?_
    refine wpr ?_
    refine wpl rfl rfl ht (ev_move ht rfl rfl) ?_
    intro a ht
    refine wpl rfl rfl ht (ev_move ht rfl rfl) ?_
    intro a ht
    refine wpl rfl rfl ht (ev_cmp ht rfl rfl rfl rfl) ?_
    intro a ht
    refine wpl rfl rfl ht (ev_move ht rfl rfl) ?_
    intro a ht
    by_cases h4 : xs0_2 ≠ i
    · replace H := ite_yes h4 H
      refine wpl_yes rfl ht rfl ((decide_eq_true h4)) ?_
      refine wpl rfl rfl ht (ev_load_agg ht rfl rfl (ag_28.trans (by first | rw [Col.length_cells] | rfl)) (hm.blk_all 0 rfl)) ?_
      intro a ht
      refine wpl_yes rfl ht rfl ((decide_eq_true h4)) ?_
      refine wpl rfl rfl ht (ev_move ht rfl rfl) ?_
      intro a ht
      refine wpl_yes rfl ht rfl ((decide_eq_true h4)) ?_
      refine wpl rfl rfl ht (ev_move ht rfl rfl) ?_
      intro a ht
      refine wpl_yes rfl ht rfl ((decide_eq_true h4)) ?_
      obtain ⟨t5, et5, H⟩ := bind_get H
      have hcall := spec_l01At.calls _ _ x i xs0_2 _ ((fun (hq : Ms _ _ _ ([] ++ [.blk b1 28 (Col.cells x)]) _ _) => hq.lend (φp := []) (allRO_nil)) (hm.pick (own' := [] ++ [.blk b1 28 (Col.cells x)]) [0] rfl (by decide))) et5
      refine wpl_call _ rfl rfl ht rfl rfl rfl rfl can_100 hcall ?_
      clear hcall
      rintro _ w ⟨rfl, hpost⟩ a ht
      replace hm := (hm.pick (own' := [] ++ [.blk b1 28 (Col.cells x)]) [0] rfl (by decide)).backL hpost
      clear hpost
      refine wpl_yes rfl ht rfl ((decide_eq_true h4)) ?_
      refine wpl rfl rfl ht (ev_move ht rfl rfl) ?_
      intro a ht
      refine wpl_yes rfl ht rfl ((decide_eq_true h4)) ?_
      refine wpl rfl rfl ht (ev_cmp ht rfl rfl rfl rfl) ?_
      intro a ht
      refine wpl rfl rfl ht (ev_pick_yes ht rfl rfl (decide_eq_true h4) rfl) ?_
      intro a ht
      refine wpList_nil ?_
      refine then_normal ?_
      by_cases h6 : t5 = c
      · replace H := ite_yes h6 H
        refine wpc_yes ht rfl (decide_eq_true h6) ?_
        refine wpr ?_
        refine wpl rfl rfl ht (ev_move ht rfl rfl) ?_
        intro a ht
        refine wpl rfl rfl ht (ev_move ht rfl rfl) ?_
        intro a ht
        refine wpl rfl rfl ht (ev_convert ht rfl rfl und_2 und_68) ?_
        intro a ht
        refine wpl rfl rfl ht (ev_shl ht rfl rfl rfl (wrapU_nonneg _ _ rfl)) ?_
        intro a ht
        refine wpl rfl rfl ht (ev_bit ht rfl rfl rfl rfl) ?_
        intro a ht
        refine wpl rfl rfl ht (ev_assign ht rfl rfl) ?_
        intro a ht
        refine wpList_nil ?_
        refine blk_normal ?_
        refine then_normal ?_
        refine wpr ?_
        refine wpl rfl rfl ht (ev_move ht rfl rfl) ?_
        intro a ht
        refine wpl rfl rfl ht (ev_arith ht rfl rfl rfl rfl) ?_
        intro a ht
        refine wpl rfl rfl ht (ev_assign ht rfl rfl) ?_
        intro a ht
        refine wpList_nil ?_
        exact then_normal ⟨q2, by omega, (bitop .or .i64 xs0_1 (shlI .i64 1 (wu64 xs0_2))), (w64 (xs0_2 + 1)), H, by omega, ht.sub ⟨rfl, rfl, rfl, rfl, rfl, rfl, trivial⟩, (hm.pick [0] rfl (by decide)).pickφ [] rfl⟩
      · replace H := ite_no h6 H
        refine wpc_no ht rfl (decide_eq_false h6) ?_
        refine wp_skip ?_
        refine blk_normal ?_
        refine then_normal ?_
        refine wpr ?_
        refine wpl rfl rfl ht (ev_move ht rfl rfl) ?_
        intro a ht
        refine wpl rfl rfl ht (ev_arith ht rfl rfl rfl rfl) ?_
        intro a ht
        refine wpl rfl rfl ht (ev_assign ht rfl rfl) ?_
        intro a ht
        refine wpList_nil ?_
        exact then_normal ⟨q2, by omega, xs0_1, (w64 (xs0_2 + 1)), H, by omega, ht.sub ⟨rfl, rfl, rfl, rfl, rfl, rfl, trivial⟩, (hm.pick [0] rfl (by decide)).pickφ [] rfl⟩
    · replace H := ite_no h4 H
      refine wpl_no rfl rfl ht rfl (by rw [(decide_eq_false h4)]; decide) ?_
      intro a ht
      refine wpl_no rfl rfl ht rfl (by rw [(decide_eq_false h4)]; decide) ?_
      intro a ht
      refine wpl_no rfl rfl ht rfl (by rw [(decide_eq_false h4)]; decide) ?_
      intro a ht
      refine wpl_no rfl rfl ht rfl (by rw [(decide_eq_false h4)]; decide) ?_
      intro a ht
      refine wpl_no rfl rfl ht rfl (by rw [(decide_eq_false h4)]; decide) ?_
      intro a ht
      refine wpl_no rfl rfl ht rfl (by rw [(decide_eq_false h4)]; decide) ?_
      intro a ht
      refine wpl rfl rfl ht (ev_pick_no ht rfl rfl (decide_eq_false h4) rfl) ?_
      intro a ht
      refine wpList_nil ?_
      refine then_normal ?_
      refine wpc_no ht rfl rfl ?_
      refine wp_skip ?_
      refine blk_normal ?_
      refine then_normal ?_
      refine wpr ?_
      refine wpl rfl rfl ht (ev_move ht rfl rfl) ?_
      intro a ht
      refine wpl rfl rfl ht (ev_arith ht rfl rfl rfl rfl) ?_
      intro a ht
      refine wpl rfl rfl ht (ev_assign ht rfl rfl) ?_
      intro a ht
      refine wpList_nil ?_
      exact then_normal ⟨q2, by omega, xs0_1, (w64 (xs0_2 + 1)), H, by omega, ht.sub ⟨rfl, rfl, rfl, rfl, rfl, rfl, trivial⟩, (hm.pick [0] rfl (by decide)).pickφ [] rfl⟩
  · replace H := ite_no h3 H
    refine wpc_no ht rfl (decide_eq_false h3) ?_
    refine wp_exit ?_
    refine then_exit ?_
    refine then_exit ?_
    refine blk_hit ?_
    refine then_normal ?_
    refine wp_seq ?_
    refine wpr ?_
    refine wpl rfl rfl ht (ev_move ht rfl rfl) ?_
    intro a ht
    refine wpl rfl rfl ht (ev_assign ht rfl rfl) ?_
    intro a ht
    refine wpList_nil ?_
    refine then_normal ?_
    refine wp_ret ?_
    have hres := ht.res (P := Try.prog) (w := w) (rs := [.tmp 6]) (vs := [.int .i64 xs0_1]) (.tmp rfl .nil)
    obtain rfl := Option.some.inj H
    exact leave ht rfl hres ⟨rfl, ((hm.pick [] rfl (by decide)).pickφ [] rfl).post fun _ h => h⟩

/-! ### spec_l02Rows: function 59 (loop.example/g01362/spec.l02Rows) -/
def spec_l02Rows.l0 : Nat → Col → Int → List Int → Int → Option (List Int)
  | 0, _, _, _, _ => none
  | q3 + 1, x, c, ls0_4, xs0_5 => if xs0_5 < x.p then ((spec_l01Around.f q3 x xs0_5 c).bind fun t5 => (push ls0_4 t5).bind fun l10 => spec_l02Rows.l0 q3 x c l10 (w64 (xs0_5 + 1))) else (some ls0_4)
def spec_l02Rows.f (k : Nat) (x : Col) (c : Int) : Option (List Int) := spec_l02Rows.l0 k x c ([] : List Int) 0
set_option maxRecDepth 100000 in
set_option maxHeartbeats 1000000 in
theorem spec_l02Rows.calls (k : Nat) (X : List Nat) (w0 : World)  (x : Col) (c : Int) (r : List Int)
    (hp : Pre X w0 [] []) (H : spec_l02Rows.f k x c = some r) :
    Calls Try.prog 59 [.agg (Col.cells x).toArray, .int .i64 c].toArray w0 (Ret fun v w => ∃ (A_0 : Option Addr) (c_0 : Nat) (n_0 : Nat), v = .slice A_0 n_0 c_0 ∧ Post X (fps []) w0 [.vec A_0 c_0 2 1 n_0 (ints r)] [] w) := by
  unfold spec_l02Rows.f at H
  refine enterM (n := 22) hp Try.func59 rfl rfl (Nat.le_of_ble_eq_true rfl) fun a w ht hm => ?_
  refine wp_seq ?_
  refine wpr ?_
  refine wpl_box rfl rfl ht hm rfl rfl rfl ?_
  intro b1 a ht w hm
  refine wpl rfl rfl ht (ev_assign ht rfl rfl) ?_
  intro a ht
  refine wpList_nil ?_
  refine then_normal ?_
  refine wp_seq ?_
  refine wpr ?_
  refine wpl_build_ints (l := ([] : List Int)) rfl rfl ht hm rfl und_25 zo_2 sz1_2 (by decide) rfl rfl rfl ?_
  intro A2 a ht w hm
  refine wpl rfl rfl ht (ev_assign ht rfl rfl) ?_
  intro a ht
  refine wpList_nil ?_
  refine then_normal ?_
  refine wp_seq ?_
  refine wp_seq ?_
  refine wpr ?_
  refine wpl rfl rfl ht (ev_assign ht rfl rfl) ?_
  intro a ht
  refine wpList_nil ?_
  refine then_normal ?_
  refine wp_block ?_
  refine wpLoop (fun q a w => ∃ (ls0_4 : List Int) (xs0_5 : Int) (As0_1 : Option Addr) (cs0_2 : Nat) (ms0_3 : Nat), spec_l02Rows.l0 q x c ls0_4 xs0_5 = some r ∧ q ≤ k ∧ Tm 22 [(1, .int .i64 c), (2, .pointer (some ⟨b1, 0, none⟩)), (4, .slice none 0 0), (5, .slice As0_1 ms0_3 cs0_2), (6, .int .i64 xs0_5)] a ∧ Ms X (fps []) w0 [.vec As0_1 cs0_2 2 1 ms0_3 (ints ls0_4), .blk b1 28 (Col.cells x)] [] w) (k0 := k) ⟨([] : List Int), 0, A2, 0, 0, H, Nat.le_refl _, ht.sub ⟨rfl, rfl, rfl, rfl, rfl, trivial⟩, (hm.pick [0, 1] rfl (by decide)).pickφ [] rfl⟩ ?_
  clear H ht hm
  intro q3 a w hJ
  obtain ⟨ls0_4, xs0_5, As0_1, cs0_2, ms0_3, H, hqq3, ht, hm⟩ := hJ
  cases q3 with
  | zero => cases H
  | succ q3 =>
  rw [spec_l02Rows.l0] at H
  refine wp_seq ?_
  refine wp_seq ?_
  refine wpr ?_
  refine wpl rfl rfl ht (ev_move ht rfl rfl) ?_
  intro a ht
  refine wpl rfl rfl ht (ev_fieldAddr ht rfl rfl fo_28_0) ?_
  intro a ht
  refine wpl rfl rfl ht (ev_load ht rfl rfl sc_2 (hm.blk_cell 1 rfl rfl)) ?_
  intro a ht
  refine wpl rfl rfl ht (ev_cmp ht rfl rfl rfl rfl) ?_
  intro a ht
  refine wpList_nil ?_
  refine then_normal ?_
  by_cases h4 : xs0_5 < x.p
  · replace H := ite_yes h4 H
    refine wpc_yes ht rfl (decide_eq_true h4) ?_
    refine wp_skip ?_
    refine then_normal ?_
    refine wp_seq ?_
    refine wp_block ?_
    refine wpr ?_
    refine wpl rfl rfl ht (ev_move ht rfl rfl) ?_
    intro a ht
    refine wpl rfl rfl ht (ev_load_agg ht rfl rfl (ag_28.trans (by first | rw [Col.length_cells] | rfl)) (hm.blk_all 1 rfl)) ?_
    intro a ht
    refine wpl rfl rfl ht (ev_move ht rfl rfl) ?_
    intro a ht
    refine wpl rfl rfl ht (ev_move ht rfl rfl) ?_
    intro a ht
    obtain ⟨t5, et5, H⟩ := bind_get H
    have hcall := spec_l01Around.calls q3 _ _ x xs0_5 c _ ((fun (hq : Ms _ _ _ ([] ++ [.vec As0_1 cs0_2 2 1 ms0_3 (ints ls0_4), .blk b1 28 (Col.cells x)]) _ _) => hq.lend (φp := []) (allRO_nil)) (hm.pick (own' := [] ++ [.vec As0_1 cs0_2 2 1 ms0_3 (ints ls0_4), .blk b1 28 (Col.cells x)]) [0, 1] rfl (by decide))) et5
    refine wpl_call _ rfl rfl ht rfl rfl rfl rfl can_103 hcall ?_
    clear hcall
    rintro _ w ⟨rfl, hpost⟩ a ht
    replace hm := (hm.pick (own' := [] ++ [.vec As0_1 cs0_2 2 1 ms0_3 (ints ls0_4), .blk b1 28 (Col.cells x)]) [0, 1] rfl (by decide)).backL hpost
    clear hpost
    refine wpl_build_ints (l := [t5]) rfl rfl ht hm rfl und_25 zo_2 sz1_2 (by decide) rfl rfl rfl ?_
    intro A6 a ht w hm
    obtain ⟨l10, el10, H⟩ := bind_get H
    refine wpl_push (r := l10) 1 0 rfl rfl ht hm rfl ap_25 rfl rfl rfl rfl el10 ?_
    intro A7 c8 m9 a ht w hm
    refine wpl rfl rfl ht (ev_assign ht rfl rfl) ?_
    intro a ht
    refine wpList_nil ?_
    refine blk_normal ?_
    refine then_normal ?_
    refine wpr ?_
    refine wpl rfl rfl ht (ev_move ht rfl rfl) ?_
    intro a ht
    refine wpl rfl rfl ht (ev_arith ht rfl rfl rfl rfl) ?_
    intro a ht
    refine wpl rfl rfl ht (ev_assign ht rfl rfl) ?_
    intro a ht
    refine wpList_nil ?_
    exact then_normal ⟨q3, by omega, l10, (w64 (xs0_5 + 1)), A7, c8, m9, H, by omega, ht.sub ⟨rfl, rfl, rfl, rfl, rfl, trivial⟩, (hm.pick [1, 2] rfl (by decide)).pickφ [] rfl⟩
  · replace H := ite_no h4 H
    refine wpc_no ht rfl (decide_eq_false h4) ?_
    refine wp_exit ?_
    refine then_exit ?_
    refine then_exit ?_
    refine blk_hit ?_
    refine then_normal ?_
    refine wp_seq ?_
    refine wpr ?_
    refine wpl rfl rfl ht (ev_move ht rfl rfl) ?_
    intro a ht
    refine wpl rfl rfl ht (ev_assign ht rfl rfl) ?_
    intro a ht
    refine wpList_nil ?_
    refine then_normal ?_
    refine wp_ret ?_
    have hres := ht.res (P := Try.prog) (w := w) (rs := [.tmp 4]) (vs := [.slice As0_1 ms0_3 cs0_2]) (.tmp rfl .nil)
    obtain rfl := Option.some.inj H
    exact leave ht rfl hres ⟨As0_1, cs0_2, ms0_3, rfl, ((hm.pick [0] rfl (by decide)).pickφ [] rfl).post fun _ h => h⟩

/-! ### spec_l01Ones: function 102 (loop.example/g01362/spec.l01Ones) -/
def spec_l01Ones.l0 : Nat → Int → Int → Option (Int)
  | 0, _, _ => none
  | q1 + 1, xs0_1, xs0_2 => if xs0_1 > 0 then (spec_l01Ones.l0 q1 (w64 (Int.tdiv xs0_1 2)) (w64 (xs0_2 + (Int.tmod xs0_1 2)))) else (some xs0_2)
def spec_l01Ones.f (k : Nat) (n_ : Int) : Option (Int) := spec_l01Ones.l0 k n_ 0
set_option maxRecDepth 100000 in
set_option maxHeartbeats 1000000 in
theorem spec_l01Ones.calls (k : Nat) (X : List Nat) (w0 : World)  (n_ : Int) (r : Int)
    (hp : Pre X w0 [] []) (H : spec_l01Ones.f k n_ = some r) :
    Calls Try.prog 102 [.int .i64 n_].toArray w0 (Ret fun v w => v = .int .i64 r ∧ Post X (fps []) w0 [] [] w) := by
  unfold spec_l01Ones.f at H
  refine enterM (n := 13) hp Try.func102 rfl rfl (Nat.le_of_ble_eq_true rfl) fun a w ht hm => ?_
  refine wp_seq ?_
  refine wpr ?_
  refine wpl rfl rfl ht (ev_assign ht rfl rfl) ?_
  intro a ht
  refine wpList_nil ?_
  refine then_normal ?_
  refine wp_seq ?_
  refine wpr ?_
  refine wpl rfl rfl ht (ev_assign ht rfl rfl) ?_
  intro a ht
  refine wpList_nil ?_
  refine then_normal ?_
  refine wp_seq ?_
  refine wp_block ?_
  refine wpLoop (fun q a w => ∃ (xs0_1 : Int) (xs0_2 : Int), spec_l01Ones.l0 q xs0_1 xs0_2 = some r ∧ q ≤ k ∧ Tm 13 [(2, .int .i64 0), (0, .int .i64 xs0_1), (3, .int .i64 xs0_2)] a ∧ Ms X (fps []) w0 [] [] w) (k0 := k) ⟨n_, 0, H, Nat.le_refl _, ht.sub ⟨rfl, rfl, rfl, trivial⟩, (hm.pick [] rfl (by decide)).pickφ [] rfl⟩ ?_
  clear H ht hm
  intro q1 a w hJ
  obtain ⟨xs0_1, xs0_2, H, hqq1, ht, hm⟩ := hJ
  cases q1 with
  | zero => cases H
  | succ q1 =>
  rw [spec_l01Ones.l0] at H
  refine wp_seq ?_
  refine wp_seq ?_
  refine wpr ?_
  refine wpl rfl rfl ht (ev_move ht rfl rfl) ?_
  intro a ht
  refine wpl rfl rfl ht (ev_cmp ht rfl rfl rfl rfl) ?_
  intro a ht
  refine wpList_nil ?_
  refine then_normal ?_
  by_cases h2 : xs0_1 > 0
  · replace H := ite_yes h2 H
    refine wpc_yes ht rfl (decide_eq_true h2) ?_
    refine wp_skip ?_
    refine then_normal ?_
    refine wp_seq ?_
    refine wp_block ?_
    refine wpr ?_
    refine wpl rfl rfl ht (ev_move ht rfl rfl) ?_
    intro a ht
    refine wpl rfl rfl ht (ev_move ht rfl rfl) ?_
    intro a ht
    refine wpl rfl rfl ht (ev_rem ht rfl rfl rfl (by decide)) ?_
    intro a ht
    refine wpl rfl rfl ht (ev_arith ht rfl rfl rfl rfl) ?_
    intro a ht
    refine wpl rfl rfl ht (ev_assign ht rfl rfl) ?_
    intro a ht
    refine wpList_nil ?_
    refine blk_normal ?_
    refine then_normal ?_
    refine wpr ?_
    refine wpl rfl rfl ht (ev_move ht rfl rfl) ?_
    intro a ht
    refine wpl rfl rfl ht (ev_quo ht rfl rfl rfl (by decide)) ?_
    intro a ht
    refine wpl rfl rfl ht (ev_assign ht rfl rfl) ?_
    intro a ht
    refine wpList_nil ?_
    exact then_normal ⟨q1, by omega, (w64 (Int.tdiv xs0_1 2)), (w64 (xs0_2 + (Int.tmod xs0_1 2))), H, by omega, ht.sub ⟨rfl, rfl, rfl, trivial⟩, (hm.pick [] rfl (by decide)).pickφ [] rfl⟩
  · replace H := ite_no h2 H
    refine wpc_no ht rfl (decide_eq_false h2) ?_
    refine wp_exit ?_
    refine then_exit ?_
    refine then_exit ?_
    refine blk_hit ?_
    refine then_normal ?_
    refine wp_seq ?_
    refine wpr ?_
    refine wpl rfl rfl ht (ev_move ht rfl rfl) ?_
    intro a ht
    refine wpl rfl rfl ht (ev_assign ht rfl rfl) ?_
    intro a ht
    refine wpList_nil ?_
    refine then_normal ?_
    refine wp_ret ?_
    have hres := ht.res (P := Try.prog) (w := w) (rs := [.tmp 2]) (vs := [.int .i64 xs0_2]) (.tmp rfl .nil)
    obtain rfl := Option.some.inj H
    exact leave ht rfl hres ⟨rfl, ((hm.pick [] rfl (by decide)).pickφ [] rfl).post fun _ h => h⟩

/-! ### spec_l02Count: function 58 (loop.example/g01362/spec.l02Count) -/
mutual
def spec_l02Count.l0 : Nat → List Int → Int → Int → Int → Int → Option (Int)
  | 0, _, _, _, _, _ => none
  | q2 + 1, rows, m2, xs0_1, xs0_2, xs0_3 => if xs0_3 < (rows.length : Int) then ((spec_l01Ones.f q2 xs0_1).bind fun t4 => if t4 ≥ m2 then (if (bitop .and .i64 (shrI .i64 xs0_1 (wu64 xs0_3)) 1) = 1 then ((getI rows xs0_3).bind fun t7 => (spec_l02Count.f q2 rows (bitop .and .i64 (bitop .xor .i64 xs0_1 (shlI .i64 1 (wu64 xs0_3))) t7) (w64 (m2 - 1))).bind fun t8 => spec_l02Count.l0 q2 rows m2 (bitop .xor .i64 xs0_1 (shlI .i64 1 (wu64 xs0_3))) (w64 (xs0_2 + t8)) (w64 (xs0_3 + 1))) else (spec_l02Count.l0 q2 rows m2 xs0_1 xs0_2 (w64 (xs0_3 + 1)))) else (some xs0_2)) else (some xs0_2)
def spec_l02Count.f : Nat → List Int → Int → Int → Option (Int)
  | 0, _, _, _ => none
  | k + 1, rows, free, m2 => if m2 = 0 then (some 1) else (spec_l02Count.l0 k rows m2 free 0 0)
end
set_option maxRecDepth 100000 in
set_option maxHeartbeats 1000000 in
theorem spec_l02Count.calls (k : Nat) (X : List Nat) (w0 : World) (A : Option Addr) (c : Nat) (m : Nat) (rows : List Int) (free : Int) (m2 : Int) (r : Int)
    (hp : Pre X w0 [] [IntsAt A c m rows]) (H : spec_l02Count.f k rows free m2 = some r) :
    Calls Try.prog 58 [.slice A m c, .int .i64 free, .int .i64 m2].toArray w0 (Ret fun v w => v = .int .i64 r ∧ Post X (fps []) w0 [] [] w) := by
  induction k using Nat.strongRecOn generalizing X w0 A c m rows free m2 r with
  | _ k ih =>
  cases k with
  | zero => cases H
  | succ k =>
  rw [spec_l02Count.f] at H
  refine enterM (n := 47) hp Try.func58 rfl rfl (Nat.le_of_ble_eq_true rfl) fun a w ht hm => ?_
  induction k using Nat.strongRecOn with
  | _ k ih =>
  refine wp_seq ?_
  refine wpr ?_
  refine wpl rfl rfl ht (ev_assign ht rfl rfl) ?_
  intro a ht
  refine wpList_nil ?_
  refine then_normal ?_
  refine wp_seq ?_
  refine wp_seq ?_
  refine wpr ?_
  refine wpl rfl rfl ht (ev_move ht rfl rfl) ?_
  intro a ht
  refine wpl rfl rfl ht (ev_cmp ht rfl rfl rfl rfl) ?_
  intro a ht
  refine wpList_nil ?_
  refine then_normal ?_
  by_cases h1 : m2 = 0
  · replace H := ite_yes h1 H
    refine wpc_yes ht rfl (decide_eq_true h1) ?_
    refine wp_seq ?_
    refine wpr ?_
    refine wpl rfl rfl ht (ev_assign ht rfl rfl) ?_
    intro a ht
    refine wpList_nil ?_
    refine then_normal ?_
    refine wp_ret ?_
    refine then_ret ?_
    have hres := ht.res (P := Try.prog) (w := w) (rs := [.tmp 6]) (vs := [.int .i64 1]) (.tmp rfl .nil)
    obtain rfl := Option.some.inj H
    exact leave ht rfl hres ⟨rfl, ((hm.pick [] rfl (by decide)).pickφ [] rfl).post fun _ h => h⟩
  · replace H := ite_no h1 H
    refine wpc_no ht rfl (decide_eq_false h1) ?_
    refine wp_skip ?_
    refine then_normal ?_
    refine wp_seq ?_
    refine wpr ?_
    refine wpl rfl rfl ht (ev_assign ht rfl rfl) ?_
    intro a ht
    refine wpList_nil ?_
    refine then_normal ?_
    refine wp_seq ?_
    refine wp_seq ?_
    refine wpr ?_
    refine wpl rfl rfl ht (ev_assign ht rfl rfl) ?_
    intro a ht
    refine wpList_nil ?_
    refine then_normal ?_
    refine wp_block ?_
    refine wpLoop (fun q a w => ∃ (xs0_1 : Int) (xs0_2 : Int) (xs0_3 : Int), spec_l02Count.l0 q rows m2 xs0_1 xs0_2 xs0_3 = some r ∧ q ≤ k ∧ Tm 47 [(0, .slice A m c), (2, .int .i64 m2), (6, .int .i64 0), (1, .int .i64 xs0_1), (7, .int .i64 xs0_2), (8, .int .i64 xs0_3)] a ∧ Ms X (fps []) w0 [] [IntsAt A c m rows] w) (k0 := k) ⟨free, 0, 0, H, Nat.le_refl _, ht.sub ⟨rfl, rfl, rfl, rfl, rfl, rfl, trivial⟩, (hm.pick [] rfl (by decide)).pickφ [0] rfl⟩ ?_
    clear H ht hm
    intro q2 a w hJ
    obtain ⟨xs0_1, xs0_2, xs0_3, H, hqq2, ht, hm⟩ := hJ
    cases q2 with
    | zero => cases H
    | succ q2 =>
    rw [spec_l02Count.l0] at H
    refine wp_seq ?_
    refine wp_seq ?_
    refine wpr ?_
    refine wpl rfl rfl ht (ev_move ht rfl rfl) ?_
    intro a ht
    refine wpl rfl rfl ht (ev_move ht rfl rfl) ?_
    intro a ht
    refine wpl rfl rfl ht (ev_len_of ht rfl rfl und_25 (hm.fact (φ := IntsAt A c m rows) 0 rfl)) ?_
    intro a ht
    refine wpl rfl rfl ht (ev_cmp ht rfl rfl rfl rfl) ?_
    intro a ht
    refine wpl rfl rfl ht (ev_move ht rfl rfl) ?_
    intro a ht
    by_cases h3 : xs0_3 < (rows.length : Int)
    · replace H := ite_yes h3 H
      refine wpl_yes rfl ht rfl ((decide_eq_true h3)) ?_
      refine wpl rfl rfl ht (ev_move ht rfl rfl) ?_
      intro a ht
      refine wpl_yes rfl ht rfl ((decide_eq_true h3)) ?_
      obtain ⟨t4, et4, H⟩ := bind_get H
      have hcall := spec_l01Ones.calls q2 _ _ xs0_1 _ ((fun (hq : Ms _ _ _ ([] ++ []) _ _) => hq.lend (φp := []) (allRO_nil)) (hm.pick (own' := [] ++ []) [] rfl (by decide))) et4
      refine wpl_call _ rfl rfl ht rfl rfl rfl rfl can_102 hcall ?_
      clear hcall
      rintro _ w ⟨rfl, hpost⟩ a ht
      replace hm := (hm.pick (own' := [] ++ []) [] rfl (by decide)).backL hpost
      clear hpost
      refine wpl_yes rfl ht rfl ((decide_eq_true h3)) ?_
      refine wpl rfl rfl ht (ev_move ht rfl rfl) ?_
      intro a ht
      refine wpl_yes rfl ht rfl ((decide_eq_true h3)) ?_
      refine wpl rfl rfl ht (ev_cmp ht rfl rfl rfl rfl) ?_
      intro a ht
      refine wpl rfl rfl ht (ev_pick_yes ht rfl rfl (decide_eq_true h3) rfl) ?_
      intro a ht
      refine wpList_nil ?_
      refine then_normal ?_
      by_cases h5 : t4 ≥ m2
      · replace H := ite_yes h5 H
        refine wpc_yes ht rfl (decide_eq_true h5) ?_
        refine wp_skip ?_
        refine then_normal ?_
        refine wp_seq ?_
        refine wp_block ?_
        refine wp_seq ?_
        refine wpr ?_
        refine wpl rfl rfl ht (ev_move ht rfl rfl) ?_
        intro a ht
        refine wpl rfl rfl ht (ev_move ht rfl rfl) ?_
        intro a ht
        refine wpl rfl rfl ht (ev_convert ht rfl rfl und_2 und_68) ?_
        intro a ht
        refine wpl rfl rfl ht (ev_shr ht rfl rfl rfl (wrapU_nonneg _ _ rfl)) ?_
        intro a ht
        refine wpl rfl rfl ht (ev_bit ht rfl rfl rfl rfl) ?_
        intro a ht
        refine wpl rfl rfl ht (ev_cmp ht rfl rfl rfl rfl) ?_
        intro a ht
        refine wpList_nil ?_
        refine then_normal ?_
        by_cases h6 : (bitop .and .i64 (shrI .i64 xs0_1 (wu64 xs0_3)) 1) = 1
        · replace H := ite_yes h6 H
          refine wpc_yes ht rfl (decide_eq_true h6) ?_
          refine wp_seq ?_
          refine wpr ?_
          refine wpl rfl rfl ht (ev_move ht rfl rfl) ?_
          intro a ht
          refine wpl rfl rfl ht (ev_move ht rfl rfl) ?_
          intro a ht
          refine wpl rfl rfl ht (ev_convert ht rfl rfl und_2 und_68) ?_
          intro a ht
          refine wpl rfl rfl ht (ev_shl ht rfl rfl rfl (wrapU_nonneg _ _ rfl)) ?_
          intro a ht
          refine wpl rfl rfl ht (ev_bit ht rfl rfl rfl rfl) ?_
          intro a ht
          refine wpl rfl rfl ht (ev_assign ht rfl rfl) ?_
          intro a ht
          refine wpList_nil ?_
          refine then_normal ?_
          refine wpr ?_
          refine wpl rfl rfl ht (ev_move ht rfl rfl) ?_
          intro a ht
          refine wpl rfl rfl ht (ev_move ht rfl rfl) ?_
          intro a ht
          refine wpl rfl rfl ht (ev_move ht rfl rfl) ?_
          intro a ht
          refine wpl rfl rfl ht (ev_move ht rfl rfl) ?_
          intro a ht
          refine wpl rfl rfl ht (ev_move ht rfl rfl) ?_
          intro a ht
          obtain ⟨t7, et7, H⟩ := bind_get H
          refine wpl rfl rfl ht (ev_index_ints ht rfl rfl rfl so_25 (hm.fact (φ := IntsAt A c m rows) 0 rfl) et7) ?_
          intro a ht
          refine wpl rfl rfl ht (ev_load ht rfl rfl sc_2 (RowAt.cell (hm.fact (φ := IntsAt A c m rows) 0 rfl) (ints_get et7) rfl)) ?_
          intro a ht
          refine wpl rfl rfl ht (ev_bit ht rfl rfl rfl rfl) ?_
          intro a ht
          refine wpl rfl rfl ht (ev_move ht rfl rfl) ?_
          intro a ht
          refine wpl rfl rfl ht (ev_arith ht rfl rfl rfl rfl) ?_
          intro a ht
          obtain ⟨t8, et8, H⟩ := bind_get H
          have hcall := ih q2 (by omega) _ _ A c m rows (bitop .and .i64 (bitop .xor .i64 xs0_1 (shlI .i64 1 (wu64 xs0_3))) t7) (w64 (m2 - 1)) _ ((fun (hq : Ms _ _ _ ([] ++ []) _ _) => hq.lend (φp := [IntsAt A c m rows]) (allRO_cons (hq.lendFact 0 rfl) (allRO_nil))) (hm.pick (own' := [] ++ []) [] rfl (by decide))) et8
          refine wpl_call _ rfl rfl ht rfl rfl rfl rfl can_58 hcall ?_
          clear hcall
          rintro _ w ⟨rfl, hpost⟩ a ht
          replace hm := (hm.pick (own' := [] ++ []) [] rfl (by decide)).backL hpost
          clear hpost
          refine wpl rfl rfl ht (ev_arith ht rfl rfl rfl rfl) ?_
          intro a ht
          refine wpl rfl rfl ht (ev_assign ht rfl rfl) ?_
          intro a ht
          refine wpList_nil ?_
          refine blk_normal ?_
          refine then_normal ?_
          refine wpr ?_
          refine wpl rfl rfl ht (ev_move ht rfl rfl) ?_
          intro a ht
          refine wpl rfl rfl ht (ev_arith ht rfl rfl rfl rfl) ?_
          intro a ht
          refine wpl rfl rfl ht (ev_assign ht rfl rfl) ?_
          intro a ht
          refine wpList_nil ?_
          exact then_normal ⟨q2, by omega, (bitop .xor .i64 xs0_1 (shlI .i64 1 (wu64 xs0_3))), (w64 (xs0_2 + t8)), (w64 (xs0_3 + 1)), H, by omega, ht.sub ⟨rfl, rfl, rfl, rfl, rfl, rfl, trivial⟩, (hm.pick [] rfl (by decide)).pickφ [0] rfl⟩
        · replace H := ite_no h6 H
          refine wpc_no ht rfl (decide_eq_false h6) ?_
          refine wp_skip ?_
          refine blk_normal ?_
          refine then_normal ?_
          refine wpr ?_
          refine wpl rfl rfl ht (ev_move ht rfl rfl) ?_
          intro a ht
          refine wpl rfl rfl ht (ev_arith ht rfl rfl rfl rfl) ?_
          intro a ht
          refine wpl rfl rfl ht (ev_assign ht rfl rfl) ?_
          intro a ht
          refine wpList_nil ?_
          exact then_normal ⟨q2, by omega, xs0_1, xs0_2, (w64 (xs0_3 + 1)), H, by omega, ht.sub ⟨rfl, rfl, rfl, rfl, rfl, rfl, trivial⟩, (hm.pick [] rfl (by decide)).pickφ [0] rfl⟩
      · replace H := ite_no h5 H
        refine wpc_no ht rfl (decide_eq_false h5) ?_
        refine wp_exit ?_
        refine then_exit ?_
        refine then_exit ?_
        refine blk_hit ?_
        refine then_normal ?_
        refine wp_seq ?_
        refine wpr ?_
        refine wpl rfl rfl ht (ev_move ht rfl rfl) ?_
        intro a ht
        refine wpl rfl rfl ht (ev_assign ht rfl rfl) ?_
        intro a ht
        refine wpList_nil ?_
        refine then_normal ?_
        refine wp_ret ?_
        have hres := ht.res (P := Try.prog) (w := w) (rs := [.tmp 6]) (vs := [.int .i64 xs0_2]) (.tmp rfl .nil)
        obtain rfl := Option.some.inj H
        exact leave ht rfl hres ⟨rfl, ((hm.pick [] rfl (by decide)).pickφ [] rfl).post fun _ h => h⟩
    · replace H := ite_no h3 H
      refine wpl_no rfl rfl ht rfl (by rw [(decide_eq_false h3)]; decide) ?_
      intro a ht
      refine wpl_no rfl rfl ht rfl (by rw [(decide_eq_false h3)]; decide) ?_
      intro a ht
      refine wpl_no rfl rfl ht rfl (by rw [(decide_eq_false h3)]; decide) ?_
      intro a ht
      refine wpl_no rfl rfl ht rfl (by rw [(decide_eq_false h3)]; decide) ?_
      intro a ht
      refine wpl rfl rfl ht (ev_pick_no ht rfl rfl (decide_eq_false h3) rfl) ?_
      intro a ht
      refine wpList_nil ?_
      refine then_normal ?_
      refine wpc_no ht rfl rfl ?_
      refine wp_exit ?_
      refine then_exit ?_
      refine then_exit ?_
      refine blk_hit ?_
      refine then_normal ?_
      refine wp_seq ?_
      refine wpr ?_
      refine wpl rfl rfl ht (ev_move ht rfl rfl) ?_
      intro a ht
      refine wpl rfl rfl ht (ev_assign ht rfl rfl) ?_
      intro a ht
      refine wpList_nil ?_
      refine then_normal ?_
      refine wp_ret ?_
      have hres := ht.res (P := Try.prog) (w := w) (rs := [.tmp 6]) (vs := [.int .i64 xs0_2]) (.tmp rfl .nil)
      obtain rfl := Option.some.inj H
      exact leave ht rfl hres ⟨rfl, ((hm.pick [] rfl (by decide)).pickφ [] rfl).post fun _ h => h⟩

/-! ### spec_CountTriangles: function 24 (loop.example/g01362/spec.CountTriangles) -/
def spec_CountTriangles.l0 : Nat → Col → List Int → Int → Option (List Int × Int)
  | 0, _, _, _ => none
  | q5 + 1, x, ls0_4, xs0_5 => if xs0_5 < x.k then ((spec_l02Rows.f q5 x xs0_5).bind fun t7 => (spec_l02Count.f q5 t7 (w64 ((shlI .i64 1 (wu64 x.p)) - 1)) 3).bind fun t11 => (push ls0_4 t11).bind fun l16 => spec_CountTriangles.l0 q5 x l16 (w64 (xs0_5 + 1))) else (some (ls0_4, 0))
def spec_CountTriangles.f (k : Nat) (x : Col) : Option (List Int × Int) := (spec_l01Is.f k x).bind fun t2 => if t2 = true then (spec_CountTriangles.l0 k x ([] : List Int) 0) else (some (([] : List Int), 1))
set_option maxRecDepth 100000 in
set_option maxHeartbeats 1000000 in
theorem spec_CountTriangles.calls (k : Nat) (X : List Nat) (w0 : World)  (x : Col) (r : List Int × Int)
    (hp : Pre X w0 [] []) (H : spec_CountTriangles.f k x = some r) :
    Calls Try.prog 24 [.agg (Col.cells x).toArray].toArray w0 (Ret fun v w => ∃ (A_0 : Option Addr) (c_0 : Nat) (n_0 : Nat), v = .tuple [.slice A_0 n_0 c_0, .int .i64 r.2].toArray ∧ Post X (fps []) w0 [.vec A_0 c_0 2 1 n_0 (ints r.1)] [] w) := by
  unfold spec_CountTriangles.f at H
  refine enterM (n := 29) hp Try.func24 rfl rfl (Nat.le_of_ble_eq_true rfl) fun a w ht hm => ?_
  refine wp_seq ?_
  refine wpr ?_
  refine wpl_box rfl rfl ht hm rfl rfl rfl ?_
  intro b1 a ht w hm
  refine wpl rfl rfl ht (ev_assign ht rfl rfl) ?_
  intro a ht
  refine wpl rfl rfl ht (ev_assign ht rfl rfl) ?_
  intro a ht
  refine wpList_nil ?_
  refine then_normal ?_
  refine wp_seq ?_
  refine wp_seq ?_
  refine wpr ?_
  refine wpl rfl rfl ht (ev_load_agg ht rfl rfl (ag_28.trans (by first | rw [Col.length_cells] | rfl)) (hm.blk_all 0 rfl)) ?_
  intro a ht
  obtain ⟨t2, et2, H⟩ := bind_get H
  have hcall := spec_l01Is.calls k _ _ x _ ((fun (hq : Ms _ _ _ ([] ++ [.blk b1 28 (Col.cells x)]) _ _) => hq.lend (φp := []) (allRO_nil)) (hm.pick (own' := [] ++ [.blk b1 28 (Col.cells x)]) [0] rfl (by decide))) et2
  refine wpl_call _ rfl rfl ht rfl rfl rfl rfl can_68 hcall ?_
  clear hcall
  rintro _ w ⟨rfl, hpost⟩ a ht
  replace hm := (hm.pick (own' := [] ++ [.blk b1 28 (Col.cells x)]) [0] rfl (by decide)).backL hpost
  clear hpost
  refine wpl rfl rfl ht (ev_not ht rfl rfl) ?_
  intro a ht
  refine wpList_nil ?_
  refine then_normal ?_
  by_cases h3 : t2 = true
  · replace H := ite_yes h3 H
    refine wpc_no ht rfl (not_t h3) ?_
    refine wp_skip ?_
    refine then_normal ?_
    refine wp_seq ?_
    refine wpr ?_
    refine wpl_build_ints (l := ([] : List Int)) rfl rfl ht hm rfl und_25 zo_2 sz1_2 (by decide) rfl rfl rfl ?_
    intro A4 a ht w hm
    refine wpl rfl rfl ht (ev_assign ht rfl rfl) ?_
    intro a ht
    refine wpList_nil ?_
    refine then_normal ?_
    refine wp_seq ?_
    refine wp_seq ?_
    refine wpr ?_
    refine wpl rfl rfl ht (ev_assign ht rfl rfl) ?_
    intro a ht
    refine wpList_nil ?_
    refine then_normal ?_
    refine wp_block ?_
    refine wpLoop (fun q a w => ∃ (ls0_4 : List Int) (xs0_5 : Int) (As0_1 : Option Addr) (cs0_2 : Nat) (ms0_3 : Nat), spec_CountTriangles.l0 q x ls0_4 xs0_5 = some r ∧ q ≤ k ∧ Tm 29 [(1, .pointer (some ⟨b1, 0, none⟩)), (2, .slice none 0 0), (3, .int .i64 0), (4, .slice As0_1 ms0_3 cs0_2), (5, .int .i64 xs0_5)] a ∧ Ms X (fps []) w0 [.vec As0_1 cs0_2 2 1 ms0_3 (ints ls0_4), .blk b1 28 (Col.cells x)] [] w) (k0 := k) ⟨([] : List Int), 0, A4, 0, 0, H, Nat.le_refl _, ht.sub ⟨rfl, rfl, rfl, rfl, rfl, trivial⟩, (hm.pick [0, 1] rfl (by decide)).pickφ [] rfl⟩ ?_
    clear H ht hm
    intro q5 a w hJ
    obtain ⟨ls0_4, xs0_5, As0_1, cs0_2, ms0_3, H, hqq5, ht, hm⟩ := hJ
    cases q5 with
    | zero => cases H
    | succ q5 =>
    rw [spec_CountTriangles.l0] at H
    refine wp_seq ?_
    refine wp_seq ?_
    refine wpr ?_
    refine wpl rfl rfl ht (ev_move ht rfl rfl) ?_
    intro a ht
    refine wpl rfl rfl ht (ev_fieldAddr ht rfl rfl fo_28_1) ?_
    intro a ht
    refine wpl rfl rfl ht (ev_load ht rfl rfl sc_2 (hm.blk_cell 1 rfl rfl)) ?_
    intro a ht
    refine wpl rfl rfl ht (ev_cmp ht rfl rfl rfl rfl) ?_
    intro a ht
    refine wpList_nil ?_
    refine then_normal ?_
    by_cases h6 : xs0_5 < x.k
    · replace H := ite_yes h6 H
      refine wpc_yes ht rfl (decide_eq_true h6) ?_
      refine wp_skip ?_
      refine then_normal ?_
      refine wp_seq ?_
      refine wp_block ?_
      refine wph_begin (fun w => Ms X (fps []) w0 [.blk b1 28 (Col.cells x)] [] w) mixed ?_
      replace hm := hm.drew
      have hS : Ms X (fps []) w0 [.blk b1 28 (Col.cells x)] [] w.drew := (hm.pick [1] rfl (by decide)).pickφ [] rfl
      generalize w.drew = w at hm hS ⊢
      refine wph_take (i := 0) rfl (by kernel_rfl) (by kernel_rfl) (by kernel_rfl) (fun _ _ _ h => h) rfl ht hS (wanted_plain rfl) (fun w hm => ev_move ht rfl rfl) ?_
      intro a ht
      refine wph_take (i := 1) rfl (by kernel_rfl) (by kernel_rfl) (by kernel_rfl) (fun _ _ _ h => h) rfl ht hS (wanted_plain rfl) (fun w hm => ev_load_agg ht rfl rfl (ag_28.trans (by first | rw [Col.length_cells] | rfl)) (hm.blk_all 0 rfl)) ?_
      intro a ht
      refine wph_take (i := 2) rfl (by kernel_rfl) (by kernel_rfl) (by kernel_rfl) (fun _ _ _ h => h) rfl ht hS (wanted_plain rfl) (fun w hm => ev_move ht rfl rfl) ?_
      intro a ht
      refine wph_take (i := 4) rfl (by kernel_rfl) (by kernel_rfl) (by kernel_rfl) (fun _ _ _ h => h) rfl ht hS (wanted_plain rfl) (fun w hm => ev_fieldAddr ht rfl rfl fo_28_0) ?_
      intro a ht
      refine wph_take (i := 5) rfl (by kernel_rfl) (by kernel_rfl) (by kernel_rfl) (fun _ _ _ h => h) rfl ht hS (wanted_plain rfl) (fun w hm => ev_load ht rfl rfl sc_2 (hm.blk_cell 0 rfl rfl)) ?_
      intro a ht
      refine wph_take (i := 6) rfl (by kernel_rfl) (by kernel_rfl) (by kernel_rfl) (fun _ _ _ h => h) rfl ht hS (wanted_plain rfl) (fun w hm => ev_convert ht rfl rfl und_2 und_68) ?_
      intro a ht
      refine wph_take (i := 7) rfl (by kernel_rfl) (by kernel_rfl) (by kernel_rfl) (fun _ _ _ h => h) rfl ht hS (wanted_plain rfl) (fun w hm => ev_shl ht rfl rfl rfl (wrapU_nonneg _ _ rfl)) ?_
      intro a ht
      refine wph_take (i := 8) rfl (by kernel_rfl) (by kernel_rfl) (by kernel_rfl) (fun _ _ _ h => h) rfl ht hS (wanted_plain rfl) (fun w hm => ev_arith ht rfl rfl rfl rfl) ?_
      intro a ht
      refine wph_one (i := 3) (by kernel_rfl) (wph_step rfl ?_)
      obtain ⟨t7, et7, H⟩ := bind_get H
      have hcall := spec_l02Rows.calls q5 _ _ x xs0_5 _ ((fun (hq : Ms _ _ _ ([] ++ [.vec As0_1 cs0_2 2 1 ms0_3 (ints ls0_4), .blk b1 28 (Col.cells x)]) _ _) => hq.lend (φp := []) (allRO_nil)) (hm.pick (own' := [] ++ [.vec As0_1 cs0_2 2 1 ms0_3 (ints ls0_4), .blk b1 28 (Col.cells x)]) [0, 1] rfl (by decide))) et7
      refine wpl_call _ rfl rfl ht rfl rfl rfl rfl can_59 hcall ?_
      clear hcall
      rintro _ w ⟨A8, c9, m10, rfl, hpost⟩ a ht
      replace hm := (hm.pick (own' := [] ++ [.vec As0_1 cs0_2 2 1 ms0_3 (ints ls0_4), .blk b1 28 (Col.cells x)]) [0, 1] rfl (by decide)).backL hpost
      clear hpost
      have hS : Ms X (fps []) w0 [.blk b1 28 (Col.cells x)] [] w := (hm.pick [2] rfl (by decide)).pickφ [] rfl
      refine wpList_nil (qn ⟨hS, ?_⟩)
      refine wph_one (i := 9) (by kernel_rfl) (wph_step rfl ?_)
      obtain ⟨t11, et11, H⟩ := bind_get H
      have hcall := spec_l02Count.calls q5 _ _ A8 c9 m10 t7 (w64 ((shlI .i64 1 (wu64 x.p)) - 1)) 3 _ ((fun (hq : Ms _ _ _ ([] ++ [.vec A8 c9 2 1 m10 (ints t7), .vec As0_1 cs0_2 2 1 ms0_3 (ints ls0_4), .blk b1 28 (Col.cells x)]) _ _) => hq.lend (φp := [IntsAt A8 c9 m10 t7]) (allRO_cons (hq.lendVec 0 rfl) (allRO_nil))) (hm.pick (own' := [] ++ [.vec A8 c9 2 1 m10 (ints t7), .vec As0_1 cs0_2 2 1 ms0_3 (ints ls0_4), .blk b1 28 (Col.cells x)]) [0, 1, 2] rfl (by decide))) et11
      refine wpl_call _ rfl rfl ht rfl rfl rfl rfl can_58 hcall ?_
      clear hcall
      rintro _ w ⟨rfl, hpost⟩ a ht
      replace hm := (hm.pick (own' := [] ++ [.vec A8 c9 2 1 m10 (ints t7), .vec As0_1 cs0_2 2 1 ms0_3 (ints ls0_4), .blk b1 28 (Col.cells x)]) [0, 1, 2] rfl (by decide)).backL hpost
      clear hpost
      have hS : Ms X (fps []) w0 [.blk b1 28 (Col.cells x)] [] w := (hm.pick [2] rfl (by decide)).pickφ [] rfl
      refine wpList_nil (qn ⟨hS, ?_⟩)
      refine wph_one (i := 10) (by kernel_rfl) (wph_step rfl ?_)
      refine wpl_build_ints (l := [t11]) rfl rfl ht hm rfl und_25 zo_2 sz1_2 (by decide) rfl rfl rfl ?_
      intro A12 a ht w hm
      have hS : Ms X (fps []) w0 [.blk b1 28 (Col.cells x)] [] w := (hm.pick [3] rfl (by decide)).pickφ [] rfl
      refine wpList_nil (qn ⟨hS, ?_⟩)
      refine wph_one (i := 11) (by kernel_rfl) (wph_step rfl ?_)
      obtain ⟨l16, el16, H⟩ := bind_get H
      refine wpl_push (r := l16) 2 0 rfl rfl ht hm rfl ap_25 rfl rfl rfl rfl el16 ?_
      intro A13 c14 m15 a ht w hm
      have hS : Ms X (fps []) w0 [.blk b1 28 (Col.cells x)] [] w := (hm.pick [3] rfl (by decide)).pickφ [] rfl
      refine wpList_nil (qn ⟨hS, ?_⟩)
      refine wph_take (i := 12) rfl (by kernel_rfl) (by kernel_rfl) (by kernel_rfl) (fun _ _ _ h => h) rfl ht hS (wanted_plain rfl) (fun w hm => ev_assign ht rfl rfl) ?_
      intro a ht
      refine wph_done (by kernel_rfl) ?_
      refine blk_normal ?_
      refine then_normal ?_
      refine wpr ?_
      refine wpl rfl rfl ht (ev_move ht rfl rfl) ?_
      intro a ht
      refine wpl rfl rfl ht (ev_arith ht rfl rfl rfl rfl) ?_
      intro a ht
      refine wpl rfl rfl ht (ev_assign ht rfl rfl) ?_
      intro a ht
      refine wpList_nil ?_
      exact then_normal ⟨q5, by omega, l16, (w64 (xs0_5 + 1)), A13, c14, m15, H, by omega, ht.sub ⟨rfl, rfl, rfl, rfl, rfl, trivial⟩, (hm.pick [2, 3] rfl (by decide)).pickφ [] rfl⟩
    · replace H := ite_no h6 H
      refine wpc_no ht rfl (decide_eq_false h6) ?_
      refine wp_exit ?_
      refine then_exit ?_
      refine then_exit ?_
      refine blk_hit ?_
      refine then_normal ?_
      refine wp_seq ?_
      refine wpr ?_
      refine wpl rfl rfl ht (ev_move ht rfl rfl) ?_
      intro a ht
      refine wpl rfl rfl ht (ev_assign ht rfl rfl) ?_
      intro a ht
      refine wpl rfl rfl ht (ev_assign ht rfl rfl) ?_
      intro a ht
      refine wpList_nil ?_
      refine then_normal ?_
      refine wp_ret ?_
      have hres := ht.res (P := Try.prog) (w := w) (rs := [.tmp 2, .tmp 3]) (vs := [.slice As0_1 ms0_3 cs0_2, .int .i64 0]) (.tmp rfl (.tmp rfl .nil))
      obtain rfl := Option.some.inj H
      exact leave ht rfl hres ⟨As0_1, cs0_2, ms0_3, rfl, ((hm.pick [0] rfl (by decide)).pickφ [] rfl).post fun _ h => h⟩
  · replace H := ite_no h3 H
    refine wpc_yes ht rfl (not_f (Bool.eq_false_iff.mpr h3)) ?_
    refine wp_seq ?_
    refine wpr ?_
    refine wpl rfl rfl ht (ev_assign ht rfl rfl) ?_
    intro a ht
    refine wpl rfl rfl ht (ev_assign ht rfl rfl) ?_
    intro a ht
    refine wpList_nil ?_
    refine then_normal ?_
    refine wp_ret ?_
    refine then_ret ?_
    have hres := ht.res (P := Try.prog) (w := w) (rs := [.tmp 2, .tmp 3]) (vs := [.slice none 0 0, .int .i64 1]) (.tmp rfl (.tmp rfl .nil))
    replace hm : Ms _ _ _ (.vec none 0 2 1 0 (ints ([] : List Int)) :: _) _ w := hm.nilVec none 2 1
    obtain rfl := Option.some.inj H
    exact leave ht rfl hres ⟨none, 0, 0, rfl, ((hm.pick [0] rfl (by decide)).pickφ [] rfl).post fun _ h => h⟩

/-! ### impl_in: function 61 (loop.example/g01362/impl.in) -/
def impl_in.f (n_ : Int) (low : Int) (high : Int) : Option (Bool) := if n_ ≥ low then (some (decide (n_ ≤ high))) else (some false)
set_option maxRecDepth 100000 in
set_option maxHeartbeats 1000000 in
theorem impl_in.calls (X : List Nat) (w0 : World)  (n_ : Int) (low : Int) (high : Int) (r : Bool)
    (hp : Pre X w0 [] []) (H : impl_in.f n_ low high = some r) :
    Calls Try.prog 61 [.int .i64 n_, .int .i64 low, .int .i64 high].toArray w0 (Ret fun v w => v = .bool r ∧ Post X (fps []) w0 [] [] w) := by
  unfold impl_in.f at H
  refine enterM (n := 15) hp Try.func61 rfl rfl (Nat.le_of_ble_eq_true rfl) fun a w ht hm => ?_
  refine wp_seq ?_
  refine wpr ?_
  refine wpl rfl rfl ht (ev_assign ht rfl rfl) ?_
  intro a ht
  refine wpList_nil ?_
  refine then_normal ?_
  refine wp_seq ?_
  refine wpr ?_
  refine wpl rfl rfl ht (ev_move ht rfl rfl) ?_
  intro a ht
  refine wpl rfl rfl ht (ev_move ht rfl rfl) ?_
  intro a ht
  refine wpl rfl rfl ht (ev_cmp ht rfl rfl rfl rfl) ?_
  intro a ht
  refine wpl rfl rfl ht (ev_move ht rfl rfl) ?_
  intro a ht
  by_cases h1 : n_ ≥ low
  · replace H := ite_yes h1 H
    refine wpl_yes rfl ht rfl ((decide_eq_true h1)) ?_
    refine wpl rfl rfl ht (ev_move ht rfl rfl) ?_
    intro a ht
    refine wpl_yes rfl ht rfl ((decide_eq_true h1)) ?_
    refine wpl rfl rfl ht (ev_move ht rfl rfl) ?_
    intro a ht
    refine wpl_yes rfl ht rfl ((decide_eq_true h1)) ?_
    refine wpl rfl rfl ht (ev_cmp ht rfl rfl rfl rfl) ?_
    intro a ht
    refine wpl rfl rfl ht (ev_pick_yes ht rfl rfl (decide_eq_true h1) rfl) ?_
    intro a ht
    refine wpl rfl rfl ht (ev_assign ht rfl rfl) ?_
    intro a ht
    refine wpList_nil ?_
    refine then_normal ?_
    refine wp_ret ?_
    have hres := ht.res (P := Try.prog) (w := w) (rs := [.tmp 6]) (vs := [.bool (decide (n_ ≤ high))]) (.tmp rfl .nil)
    obtain rfl := Option.some.inj H
    exact leave ht rfl hres ⟨rfl, ((hm.pick [] rfl (by decide)).pickφ [] rfl).post fun _ h => h⟩
  · replace H := ite_no h1 H
    refine wpl_no rfl rfl ht rfl (by rw [(decide_eq_false h1)]; decide) ?_
    intro a ht
    refine wpl_no rfl rfl ht rfl (by rw [(decide_eq_false h1)]; decide) ?_
    intro a ht
    refine wpl_no rfl rfl ht rfl (by rw [(decide_eq_false h1)]; decide) ?_
    intro a ht
    refine wpl rfl rfl ht (ev_pick_no ht rfl rfl (decide_eq_false h1) rfl) ?_
    intro a ht
    refine wpl rfl rfl ht (ev_assign ht rfl rfl) ?_
    intro a ht
    refine wpList_nil ?_
    refine then_normal ?_
    refine wp_ret ?_
    have hres := ht.res (P := Try.prog) (w := w) (rs := [.tmp 6]) (vs := [.bool false]) (.tmp rfl .nil)
    obtain rfl := Option.some.inj H
    exact leave ht rfl hres ⟨rfl, ((hm.pick [] rfl (by decide)).pickφ [] rfl).post fun _ h => h⟩

/-! ### impl_Colouring_edges: function 122 ((*loop.example/g01362/impl.Colouring).edges) -/
def impl_Colouring_edges.f (x : Col) : Option (Int) := some (w64 (Int.tdiv (w64 (x.p * (w64 (x.p - 1)))) 2))
set_option maxRecDepth 100000 in
set_option maxHeartbeats 1000000 in
theorem impl_Colouring_edges.calls (X : List Nat) (w0 : World) (b : Nat) (x : Col) (r : Int)
    (hp : Pre X w0 [.blk b 28 (Col.cells x)] []) (H : impl_Colouring_edges.f x = some r) :
    Calls Try.prog 122 [.pointer (some ⟨b, 0, none⟩)].toArray w0 (Ret fun v w => v = .int .i64 r ∧ Post X (fps [.blk b 28 (Col.cells x)]) w0 [.blk b 28 (Col.cells x)] [] w) := by
  unfold impl_Colouring_edges.f at H
  refine enterM (n := 14) hp Try.func122 rfl rfl (Nat.le_of_ble_eq_true rfl) fun a w ht hm => ?_
  refine wp_seq ?_
  refine wpr ?_
  refine wpl rfl rfl ht (ev_assign ht rfl rfl) ?_
  intro a ht
  refine wpList_nil ?_
  refine then_normal ?_
  refine wp_seq ?_
  refine wph_begin (fun w => Ms X (fps [.blk b 28 (Col.cells x)]) w0 [.blk b 28 (Col.cells x)] [] w) mixed ?_
  replace hm := hm.drew
  have hS : Ms X (fps [.blk b 28 (Col.cells x)]) w0 [.blk b 28 (Col.cells x)] [] w.drew := (hm.pick [0] rfl (by decide)).pickφ [] rfl
  generalize w.drew = w at hm hS ⊢
  refine wph_take (i := 0) rfl (by kernel_rfl) (by kernel_rfl) (by kernel_rfl) (fun _ _ _ h => h) rfl ht hS (wanted_plain rfl) (fun w hm => ev_move ht rfl rfl) ?_
  intro a ht
  refine wph_take (i := 1) rfl (by kernel_rfl) (by kernel_rfl) (by kernel_rfl) (fun _ _ _ h => h) rfl ht hS (wanted_plain rfl) (fun w hm => ev_nilCheck ht rfl rfl) ?_
  intro a ht
  refine wph_take (i := 2) rfl (by kernel_rfl) (by kernel_rfl) (by kernel_rfl) (fun _ _ _ h => h) rfl ht hS (wanted_plain rfl) (fun w hm => ev_fieldAddr ht rfl rfl fo_28_0) ?_
  intro a ht
  refine wph_take (i := 3) rfl (by kernel_rfl) (by kernel_rfl) (by kernel_rfl) (fun _ _ _ h => h) rfl ht hS (wanted_plain rfl) (fun w hm => ev_load ht rfl rfl sc_2 (hm.blk_cell 0 rfl rfl)) ?_
  intro a ht
  refine wph_take (i := 4) rfl (by kernel_rfl) (by kernel_rfl) (by kernel_rfl) (fun _ _ _ h => h) rfl ht hS (wanted_plain rfl) (fun w hm => ev_move ht rfl rfl) ?_
  intro a ht
  refine wph_take (i := 5) rfl (by kernel_rfl) (by kernel_rfl) (by kernel_rfl) (fun _ _ _ h => h) rfl ht hS (wanted_plain rfl) (fun w hm => ev_nilCheck ht rfl rfl) ?_
  intro a ht
  refine wph_take (i := 6) rfl (by kernel_rfl) (by kernel_rfl) (by kernel_rfl) (fun _ _ _ h => h) rfl ht hS (wanted_plain rfl) (fun w hm => ev_fieldAddr ht rfl rfl fo_28_0) ?_
  intro a ht
  refine wph_take (i := 7) rfl (by kernel_rfl) (by kernel_rfl) (by kernel_rfl) (fun _ _ _ h => h) rfl ht hS (wanted_plain rfl) (fun w hm => ev_load ht rfl rfl sc_2 (hm.blk_cell 0 rfl rfl)) ?_
  intro a ht
  refine wph_take (i := 8) rfl (by kernel_rfl) (by kernel_rfl) (by kernel_rfl) (fun _ _ _ h => h) rfl ht hS (wanted_plain rfl) (fun w hm => ev_arith ht rfl rfl rfl rfl) ?_
  intro a ht
  refine wph_take (i := 9) rfl (by kernel_rfl) (by kernel_rfl) (by kernel_rfl) (fun _ _ _ h => h) rfl ht hS (wanted_plain rfl) (fun w hm => ev_arith ht rfl rfl rfl rfl) ?_
  intro a ht
  refine wph_take (i := 10) rfl (by kernel_rfl) (by kernel_rfl) (by kernel_rfl) (fun _ _ _ h => h) rfl ht hS (wanted_plain rfl) (fun w hm => ev_quo ht rfl rfl rfl (by decide)) ?_
  intro a ht
  refine wph_take (i := 11) rfl (by kernel_rfl) (by kernel_rfl) (by kernel_rfl) (fun _ _ _ h => h) rfl ht hS (wanted_plain rfl) (fun w hm => ev_assign ht rfl rfl) ?_
  intro a ht
  refine wph_done (by kernel_rfl) ?_
  refine then_normal ?_
  refine wp_ret ?_
  have hres := ht.res (P := Try.prog) (w := w) (rs := [.tmp 2]) (vs := [.int .i64 (w64 (Int.tdiv (w64 (x.p * (w64 (x.p - 1)))) 2))]) (.tmp rfl .nil)
  obtain rfl := Option.some.inj H
  exact leave ht rfl hres ⟨rfl, ((hm.pick [0] rfl (by decide)).pickφ [] rfl).post fun _ h => h⟩

end Go.Proofs.Ytdpamdedomkomaa.G
