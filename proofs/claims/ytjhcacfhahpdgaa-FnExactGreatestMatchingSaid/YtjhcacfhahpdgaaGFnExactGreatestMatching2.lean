/- What each Go function computes, as a Lean function, and the proof that it does: written by a program of this session (wip/gen), part 2. -/
import Derived.Test.YtjhcacfhahpdgaaGFnExactGreatestMatching1
namespace Go.Proofs.Ytjhcacfhahpdgaa.G
open Go Go.RowKit Go.Proofs.Ytjhcacfhahpdgaa.K
set_option linter.unusedVariables false
set_option linter.unusedSimpArgs false

/-! ### spec_l01Edge: function 64 (loop.example/g01362/spec.l01Edge) -/
def spec_l01Edge.f (i : Int) (j : Int) : Option (Int) := if i > j then (some (w64 ((w64 (Int.tdiv (w64 (i * (w64 (i - 1)))) 2)) + j))) else (some (w64 ((w64 (Int.tdiv (w64 (j * (w64 (j - 1)))) 2)) + i)))
set_option maxRecDepth 100000 in
set_option maxHeartbeats 1000000 in
theorem spec_l01Edge.calls (X : List Nat) (w0 : World)  (i : Int) (j : Int) (r : Int)
    (hp : Pre X w0 [] []) (H : spec_l01Edge.f i j = some r) :
    Calls Try.prog 64 [.int .i64 i, .int .i64 j].toArray w0 (Ret fun v w => v = .int .i64 r ∧ Post X (fps []) w0 [] [] w) := by
  unfold spec_l01Edge.f at H
  refine enterM (n := 22) hp Try.func64 rfl rfl (Nat.le_of_ble_eq_true rfl) fun a w ht hm => ?_
  refine wp_seq ?_
  refine wpr ?_
  refine wpl rfl rfl ht (ev_assign ht rfl rfl) ?_
  intro a ht
  refine wpList_nil ?_
  refine then_normal ?_
  refine wp_seq ?_
  refine wp_seq ?_
  refine wpr ?_
  refine wpl rfl rfl ht (ev_move ht rfl rfl) ?_
  intro a ht
  refine wpl rfl rfl ht (ev_move ht rfl rfl) ?_
  intro a ht
  refine wpl rfl rfl ht (ev_cmp ht rfl rfl rfl rfl) ?_
  intro a ht
  refine wpList_nil ?_
  refine then_normal ?_
  by_cases h1 : i > j
  · replace H := ite_yes h1 H
    refine wpc_yes ht rfl (decide_eq_true h1) ?_
    refine wp_seq ?_
    refine wpr ?_
    refine wpl rfl rfl ht (ev_move ht rfl rfl) ?_
    intro a ht
    refine wpl rfl rfl ht (ev_move ht rfl rfl) ?_
    intro a ht
    refine wpl rfl rfl ht (ev_arith ht rfl rfl rfl rfl) ?_
    intro a ht
    refine wpl rfl rfl ht (ev_arith ht rfl rfl rfl rfl) ?_
    intro a ht
    refine wpl rfl rfl ht (ev_quo ht rfl rfl rfl (by decide)) ?_
    intro a ht
    refine wpl rfl rfl ht (ev_move ht rfl rfl) ?_
    intro a ht
    refine wpl rfl rfl ht (ev_arith ht rfl rfl rfl rfl) ?_
    intro a ht
    refine wpl rfl rfl ht (ev_assign ht rfl rfl) ?_
    intro a ht
    refine wpList_nil ?_
    refine then_normal ?_
    refine wp_ret ?_
    refine then_ret ?_
    have hres := ht.res (P := Try.prog) (w := w) (rs := [.tmp 4]) (vs := [.int .i64 (w64 ((w64 (Int.tdiv (w64 (i * (w64 (i - 1)))) 2)) + j))]) (.tmp rfl .nil)
    obtain rfl := Option.some.inj H
    exact leave ht rfl hres ⟨rfl, ((hm.pick [] rfl (by decide)).pickφ [] rfl).post fun _ h => h⟩
  · replace H := ite_no h1 H
    refine wpc_no ht rfl (decide_eq_false h1) ?_
    refine wp_skip ?_
    refine then_normal ?_
    refine wp_seq ?_
    refine wpr ?_
    refine wpl rfl rfl ht (ev_move ht rfl rfl) ?_
    intro a ht
    refine wpl rfl rfl ht (ev_move ht rfl rfl) ?_
    intro a ht
    refine wpl rfl rfl ht (ev_arith ht rfl rfl rfl rfl) ?_
    intro a ht
    refine wpl rfl rfl ht (ev_arith ht rfl rfl rfl rfl) ?_
    intro a ht
    refine wpl rfl rfl ht (ev_quo ht rfl rfl rfl (by decide)) ?_
    intro a ht
    refine wpl rfl rfl ht (ev_move ht rfl rfl) ?_
    intro a ht
    refine wpl rfl rfl ht (ev_arith ht rfl rfl rfl rfl) ?_
    intro a ht
    refine wpl rfl rfl ht (ev_assign ht rfl rfl) ?_
    intro a ht
    refine wpList_nil ?_
    refine then_normal ?_
    refine wp_ret ?_
    have hres := ht.res (P := Try.prog) (w := w) (rs := [.tmp 4]) (vs := [.int .i64 (w64 ((w64 (Int.tdiv (w64 (j * (w64 (j - 1)))) 2)) + i))]) (.tmp rfl .nil)
    obtain rfl := Option.some.inj H
    exact leave ht rfl hres ⟨rfl, ((hm.pick [] rfl (by decide)).pickφ [] rfl).post fun _ h => h⟩

/-! ### spec_l01At: function 60 (loop.example/g01362/spec.l01At) -/
def spec_l01At.f (x : Col) (i : Int) (j : Int) : Option (Int) := (spec_l01Edge.f i j).bind fun t2 => (getB 136 x.e t2).bind fun t3 => some (w64 t3)
set_option maxRecDepth 100000 in
set_option maxHeartbeats 1000000 in
theorem spec_l01At.calls (X : List Nat) (w0 : World)  (x : Col) (i : Int) (j : Int) (r : Int)
    (hp : Pre X w0 [] []) (H : spec_l01At.f x i j = some r) :
    Calls Try.prog 60 [.agg (Col.cells x).toArray, .int .i64 i, .int .i64 j].toArray w0 (Ret fun v w => v = .int .i64 r ∧ Post X (fps []) w0 [] [] w) := by
  unfold spec_l01At.f at H
  refine enterM (n := 14) hp Try.func60 rfl rfl (Nat.le_of_ble_eq_true rfl) fun a w ht hm => ?_
  refine wp_seq ?_
  refine wpr ?_
  refine wpl_box rfl rfl ht hm rfl rfl rfl ?_
  intro b1 a ht w hm
  refine wpl rfl rfl ht (ev_assign ht rfl rfl) ?_
  intro a ht
  refine wpList_nil ?_
  refine then_normal ?_
  refine wp_seq ?_
  refine wpr ?_
  refine wpl rfl rfl ht (ev_move ht rfl rfl) ?_
  intro a ht
  refine wpl rfl rfl ht (ev_move ht rfl rfl) ?_
  intro a ht
  obtain ⟨t2, et2, H⟩ := bind_get H
  have hcall := spec_l01Edge.calls _ _ i j _ ((fun (hq : Ms _ _ _ ([] ++ [.blk b1 28 (Col.cells x)]) _ _) => hq.lend (φp := []) (allRO_nil)) (hm.pick (own' := [] ++ [.blk b1 28 (Col.cells x)]) [0] rfl (by decide))) et2
  refine wpl_call _ rfl rfl ht rfl rfl rfl rfl can_64 hcall ?_
  clear hcall
  rintro _ w ⟨rfl, hpost⟩ a ht
  replace hm := (hm.pick (own' := [] ++ [.blk b1 28 (Col.cells x)]) [0] rfl (by decide)).backL hpost
  clear hpost
  refine wpl rfl rfl ht (ev_fieldAddr ht rfl rfl fo_28_2) ?_
  intro a ht
  obtain ⟨t3, et3, H⟩ := bind_get H
  refine wpl rfl rfl ht (ev_indexAddr_arr ht rfl rfl rfl ar_22 (getB_lo et3) (getB_hi et3)) ?_
  intro a ht
  refine wpl rfl rfl ht (ev_load ht rfl rfl sc_5 (hm.blk_cell 0 rfl (Col.get et3))) ?_
  intro a ht
  refine wpl rfl rfl ht (ev_convert ht rfl rfl und_5 und_2) ?_
  intro a ht
  refine wpl rfl rfl ht (ev_assign ht rfl rfl) ?_
  intro a ht
  refine wpList_nil ?_
  refine then_normal ?_
  refine wp_ret ?_
  have hres := ht.res (P := Try.prog) (w := w) (rs := [.tmp 6]) (vs := [.int .i64 (w64 t3)]) (.tmp rfl .nil)
  obtain rfl := Option.some.inj H
  exact leave ht rfl hres ⟨rfl, ((hm.pick [] rfl (by decide)).pickφ [] rfl).post fun _ h => h⟩

/-! ### spec_l01Around: function 52 (loop.example/g01362/spec.l01Around) -/
def spec_l01Around.l0 : Nat → Col → Int → Int → Int → Int → Option (Int)
  | 0, _, _, _, _, _ => none
  | q2 + 1, x, i, c, xs0_1, xs0_2 => if xs0_2 < x.p then (if xs0_2 ≠ i then ((spec_l01At.f x i xs0_2).bind fun t5 => if t5 = c then (spec_l01Around.l0 q2 x i c (bitop .or .i64 xs0_1 (shlI .i64 1 (wu64 xs0_2))) (w64 (xs0_2 + 1))) else (spec_l01Around.l0 q2 x i c xs0_1 (w64 (xs0_2 + 1)))) else (spec_l01Around.l0 q2 x i c xs0_1 (w64 (xs0_2 + 1)))) else (some xs0_1)
def spec_l01Around.f (k : Nat) (x : Col) (i : Int) (c : Int) : Option (Int) := spec_l01Around.l0 k x i c 0 0
set_option maxRecDepth 100000 in
set_option maxHeartbeats 1000000 in
theorem spec_l01Around.calls (k : Nat) (X : List Nat) (w0 : World)  (x : Col) (i : Int) (c : Int) (r : Int)
    (hp : Pre X w0 [] []) (H : spec_l01Around.f k x i c = some r) :
    Calls Try.prog 52 [.agg (Col.cells x).toArray, .int .i64 i, .int .i64 c].toArray w0 (Ret fun v w => v = .int .i64 r ∧ Post X (fps []) w0 [] [] w) := by
  unfold spec_l01Around.f at H
  refine enterM (n := 32) hp Try.func52 rfl rfl (Nat.le_of_ble_eq_true rfl) fun a w ht hm => ?_
  refine wp_seq ?_
  refine wpr ?_
  refine wpl_box rfl rfl ht hm rfl rfl rfl ?_
  intro b1 a ht w hm
  refine wpl rfl rfl ht (ev_assign ht rfl rfl) ?_
  intro a ht
  refine wpList_nil ?_
  refine then_normal ?_
  refine wp_seq ?_
  refine wpr ?_
  refine wpl rfl rfl ht (ev_assign ht rfl rfl) ?_
  intro a ht
  refine wpList_nil ?_
  refine then_normal ?_
  refine wp_seq ?_
  refine wp_seq ?_
  refine wpr ?_
  refine wpl rfl rfl ht (ev_assign ht rfl rfl) ?_
  intro a ht
  refine wpList_nil ?_
  refine then_normal ?_
  refine wp_block ?_
  refine wpLoop (fun q a w => ∃ (xs0_1 : Int) (xs0_2 : Int), spec_l01Around.l0 q x i c xs0_1 xs0_2 = some r ∧ q ≤ k ∧ Tm 32 [(1, .int .i64 i), (2, .int .i64 c), (3, .pointer (some ⟨b1, 0, none⟩)), (6, .int .i64 0), (7, .int .i64 xs0_1), (8, .int .i64 xs0_2)] a ∧ Ms X (fps []) w0 [.blk b1 28 (Col.cells x)] [] w) (k0 := k) ⟨0, 0, H, Nat.le_refl _, ht.sub ⟨rfl, rfl, rfl, rfl, rfl, rfl, trivial⟩, (hm.pick [0] rfl (by decide)).pickφ [] rfl⟩ ?_
  clear H ht hm
  intro q2 a w hJ
  obtain ⟨xs0_1, xs0_2, H, hqq2, ht, hm⟩ := hJ
  cases q2 with
  | zero => cases H
  | succ q2 =>
  rw [spec_l01Around.l0] at H
  refine wp_seq ?_
  refine wp_seq ?_
  refine wpr ?_
  refine wpl rfl rfl ht (ev_move ht rfl rfl) ?_
  intro a ht
  refine wpl rfl rfl ht (ev_fieldAddr ht rfl rfl fo_28_0) ?_
  intro a ht
  refine wpl rfl rfl ht (ev_load ht rfl rfl sc_2 (hm.blk_cell 0 rfl rfl)) ?_
  intro a ht
  refine wpl rfl rfl ht (ev_cmp ht rfl rfl rfl rfl) ?_
  intro a ht
  refine wpList_nil ?_
  refine then_normal ?_
  by_cases h3 : xs0_2 < x.p
  · replace H := ite_yes h3 H
    refine wpc_yes ht rfl (decide_eq_true h3) ?_
    refine wp_skip ?_
    refine then_normal ?_
    refine wp_seq ?_
    refine wp_block ?_
    refine wp_seq ?_
    refine wpr ?_
    refine wpl rfl rfl ht (ev_move ht rfl rfl) ?_
    intro a ht
    refine wpl rfl rfl ht (ev_move ht rfl rfl) ?_
    intro a ht
    refine wpl rfl rfl ht (ev_cmp ht rfl rfl rfl rfl) ?_
    intro a ht
    refine wpl rfl rfl ht (ev_move ht rfl rfl) ?_
    intro a ht
    by_cases h4 : xs0_2 ≠ i
    · replace H := ite_yes h4 H
      refine wpl_yes rfl ht rfl ((decide_eq_true h4)) ?_
      refine wpl rfl rfl ht (ev_load_agg ht rfl rfl (ag_28.trans (by first | rw [Col.length_cells] | rfl)) (hm.blk_all 0 rfl)) ?_
      intro a ht
      refine wpl_yes rfl ht rfl ((decide_eq_true h4)) ?_
      refine wpl rfl rfl ht (ev_move ht rfl rfl) ?_
      intro a ht
      refine wpl_yes rfl ht rfl ((decide_eq_true h4)) ?_
      refine wpl rfl rfl ht (ev_move ht rfl rfl) ?_
      intro a ht
      refine wpl_yes rfl ht rfl ((decide_eq_true h4)) ?_
      obtain ⟨t5, et5, H⟩ := bind_get H
      have hcall := spec_l01At.calls _ _ x i xs0_2 _ ((fun (hq : Ms _ _ _ ([] ++ [.blk b1 28 (Col.cells x)]) _ _) => hq.lend (φp := []) (allRO_nil)) (hm.pick (own' := [] ++ [.blk b1 28 (Col.cells x)]) [0] rfl (by decide))) et5
      refine wpl_call _ rfl rfl ht rfl rfl rfl rfl can_60 hcall ?_
      clear hcall
      rintro _ w ⟨rfl, hpost⟩ a ht
      replace hm := (hm.pick (own' := [] ++ [.blk b1 28 (Col.cells x)]) [0] rfl (by decide)).backL hpost
      clear hpost
      refine wpl_yes rfl ht rfl ((decide_eq_true h4)) ?_
      refine wpl rfl rfl ht (ev_move ht rfl rfl) ?_
      intro a ht
      refine wpl_yes rfl ht rfl ((decide_eq_true h4)) ?_
      refine wpl rfl rfl ht (ev_cmp ht rfl rfl rfl rfl) ?_
      intro a ht
      refine wpl rfl rfl ht (ev_pick_yes ht rfl rfl (decide_eq_true h4) rfl) ?_
      intro a ht
      refine wpList_nil ?_
      refine then_normal ?_
      by_cases h6 : t5 = c
      · replace H := ite_yes h6 H
        refine wpc_yes ht rfl (decide_eq_true h6) ?_
        refine wpr ?_
        refine wpl rfl rfl ht (ev_move ht rfl rfl) ?_
        intro a ht
        refine wpl rfl rfl ht (ev_move ht rfl rfl) ?_
        intro a ht
        refine wpl rfl rfl ht (ev_convert ht rfl rfl und_2 und_53) ?_
        intro a ht
        refine wpl rfl rfl ht (ev_shl ht rfl rfl rfl (wrapU_nonneg _ _ rfl)) ?_
        intro a ht
        refine wpl rfl rfl ht (ev_bit ht rfl rfl rfl rfl) ?_
        intro a ht
        refine wpl rfl rfl ht (ev_assign ht rfl rfl) ?_
        intro a ht
        refine wpList_nil ?_
        refine blk_normal ?_
        refine then_normal ?_
        refine wpr ?_
        refine wpl rfl rfl ht (ev_move ht rfl rfl) ?_
        intro a ht
        refine wpl rfl rfl ht (ev_arith ht rfl rfl rfl rfl) ?_
        intro a ht
        refine wpl rfl rfl ht (ev_assign ht rfl rfl) ?_
        intro a ht
        refine wpList_nil ?_
        exact then_normal ⟨q2, by omega, (bitop .or .i64 xs0_1 (shlI .i64 1 (wu64 xs0_2))), (w64 (xs0_2 + 1)), H, by omega, ht.sub ⟨rfl, rfl, rfl, rfl, rfl, rfl, trivial⟩, (hm.pick [0] rfl (by decide)).pickφ [] rfl⟩
      · replace H := ite_no h6 H
        refine wpc_no ht rfl (decide_eq_false h6) ?_
        refine wp_skip ?_
        refine blk_normal ?_
        refine then_normal ?_
        refine wpr ?_
        refine wpl rfl rfl ht (ev_move ht rfl rfl) ?_
        intro a ht
        refine wpl rfl rfl ht (ev_arith ht rfl rfl rfl rfl) ?_
        intro a ht
        refine wpl rfl rfl ht (ev_assign ht rfl rfl) ?_
        intro a ht
        refine wpList_nil ?_
        exact then_normal ⟨q2, by omega, xs0_1, (w64 (xs0_2 + 1)), H, by omega, ht.sub ⟨rfl, rfl, rfl, rfl, rfl, rfl, trivial⟩, (hm.pick [0] rfl (by decide)).pickφ [] rfl⟩
    · replace H := ite_no h4 H
      refine wpl_no rfl rfl ht rfl (by rw [(decide_eq_false h4)]; decide) ?_
      intro a ht
      refine wpl_no rfl rfl ht rfl (by rw [(decide_eq_false h4)]; decide) ?_
      intro a ht
      refine wpl_no rfl rfl ht rfl (by rw [(decide_eq_false h4)]; decide) ?_
      intro a ht
      refine wpl_no rfl rfl ht rfl (by rw [(decide_eq_false h4)]; decide) ?_
      intro a ht
      refine wpl_no rfl rfl ht rfl (by rw [(decide_eq_false h4)]; decide) ?_
      intro a ht
      refine wpl_no rfl rfl ht rfl (by rw [(decide_eq_false h4)]; decide) ?_
      intro a ht
      refine wpl rfl rfl ht (ev_pick_no ht rfl rfl (decide_eq_false h4) rfl) ?_
      intro a ht
      refine wpList_nil ?_
      refine then_normal ?_
      refine wpc_no ht rfl rfl ?_
      refine wp_skip ?_
      refine blk_normal ?_
      refine then_normal ?_
      refine wpr ?_
      refine wpl rfl rfl ht (ev_move ht rfl rfl) ?_
      intro a ht
      refine wpl rfl rfl ht (ev_arith ht rfl rfl rfl rfl) ?_
      intro a ht
      refine wpl rfl rfl ht (ev_assign ht rfl rfl) ?_
      intro a ht
      refine wpList_nil ?_
      exact then_normal ⟨q2, by omega, xs0_1, (w64 (xs0_2 + 1)), H, by omega, ht.sub ⟨rfl, rfl, rfl, rfl, rfl, rfl, trivial⟩, (hm.pick [0] rfl (by decide)).pickφ [] rfl⟩
  · replace H := ite_no h3 H
    refine wpc_no ht rfl (decide_eq_false h3) ?_
    refine wp_exit ?_
    refine then_exit ?_
    refine then_exit ?_
    refine blk_hit ?_
    refine then_normal ?_
    refine wp_seq ?_
    refine wpr ?_
    refine wpl rfl rfl ht (ev_move ht rfl rfl) ?_
    intro a ht
    refine wpl rfl rfl ht (ev_assign ht rfl rfl) ?_
    intro a ht
    refine wpList_nil ?_
    refine then_normal ?_
    refine wp_ret ?_
    have hres := ht.res (P := Try.prog) (w := w) (rs := [.tmp 6]) (vs := [.int .i64 xs0_1]) (.tmp rfl .nil)
    obtain rfl := Option.some.inj H
    exact leave ht rfl hres ⟨rfl, ((hm.pick [] rfl (by decide)).pickφ [] rfl).post fun _ h => h⟩

/-! ### spec_l02Rows: function 36 (loop.example/g01362/spec.l02Rows) -/
def spec_l02Rows.l0 : Nat → Col → Int → List Int → Int → Option (List Int)
  | 0, _, _, _, _ => none
  | q3 + 1, x, c, ls0_4, xs0_5 => if xs0_5 < x.p then ((spec_l01Around.f q3 x xs0_5 c).bind fun t5 => (push ls0_4 t5).bind fun l10 => spec_l02Rows.l0 q3 x c l10 (w64 (xs0_5 + 1))) else (some ls0_4)
def spec_l02Rows.f (k : Nat) (x : Col) (c : Int) : Option (List Int) := spec_l02Rows.l0 k x c ([] : List Int) 0
set_option maxRecDepth 100000 in
set_option maxHeartbeats 1000000 in
theorem spec_l02Rows.calls (k : Nat) (X : List Nat) (w0 : World)  (x : Col) (c : Int) (r : List Int)
    (hp : Pre X w0 [] []) (H : spec_l02Rows.f k x c = some r) :
    Calls Try.prog 36 [.agg (Col.cells x).toArray, .int .i64 c].toArray w0 (Ret fun v w => ∃ (A_0 : Option Addr) (c_0 : Nat) (n_0 : Nat), v = .slice A_0 n_0 c_0 ∧ Post X (fps []) w0 [.vec A_0 c_0 2 1 n_0 (ints r)] [] w) := by
  unfold spec_l02Rows.f at H
  refine enterM (n := 22) hp Try.func36 rfl rfl (Nat.le_of_ble_eq_true rfl) fun a w ht hm => ?_
  refine wp_seq ?_
  refine wpr ?_
  refine wpl_box rfl rfl ht hm rfl rfl rfl ?_
  intro b1 a ht w hm
  refine wpl rfl rfl ht (ev_assign ht rfl rfl) ?_
  intro a ht
  refine wpList_nil ?_
  refine then_normal ?_
  refine wp_seq ?_
  refine wpr ?_
  refine wpl_build_ints (l := ([] : List Int)) rfl rfl ht hm rfl und_25 zo_2 sz1_2 (by decide) rfl rfl rfl ?_
  intro A2 a ht w hm
  refine wpl rfl rfl ht (ev_assign ht rfl rfl) ?_
  intro a ht
  refine wpList_nil ?_
  refine then_normal ?_
  refine wp_seq ?_
  refine wp_seq ?_
  refine wpr ?_
  refine wpl rfl rfl ht (ev_assign ht rfl rfl) ?_
  intro a ht
  refine wpList_nil ?_
  refine then_normal ?_
  refine wp_block ?_
  refine wpLoop (fun q a w => ∃ (ls0_4 : List Int) (xs0_5 : Int) (As0_1 : Option Addr) (cs0_2 : Nat) (ms0_3 : Nat), spec_l02Rows.l0 q x c ls0_4 xs0_5 = some r ∧ q ≤ k ∧ Tm 22 [(1, .int .i64 c), (2, .pointer (some ⟨b1, 0, none⟩)), (4, .slice none 0 0), (5, .slice As0_1 ms0_3 cs0_2), (6, .int .i64 xs0_5)] a ∧ Ms X (fps []) w0 [.vec As0_1 cs0_2 2 1 ms0_3 (ints ls0_4), .blk b1 28 (Col.cells x)] [] w) (k0 := k) ⟨([] : List Int), 0, A2, 0, 0, H, Nat.le_refl _, ht.sub ⟨rfl, rfl, rfl, rfl, rfl, trivial⟩, (hm.pick [0, 1] rfl (by decide)).pickφ [] rfl⟩ ?_
  clear H ht hm
  intro q3 a w hJ
  obtain ⟨ls0_4, xs0_5, As0_1, cs0_2, ms0_3, H, hqq3, ht, hm⟩ := hJ
  cases q3 with
  | zero => cases H
  | succ q3 =>
  rw [spec_l02Rows.l0] at H
  refine wp_seq ?_
  refine wp_seq ?_
  refine wpr ?_
  refine wpl rfl rfl ht (ev_move ht rfl rfl) ?_
  intro a ht
  refine wpl rfl rfl ht (ev_fieldAddr ht rfl rfl fo_28_0) ?_
  intro a ht
  refine wpl rfl rfl ht (ev_load ht rfl rfl sc_2 (hm.blk_cell 1 rfl rfl)) ?_
  intro a ht
  refine wpl rfl rfl ht (ev_cmp ht rfl rfl rfl rfl) ?_
  intro a ht
  refine wpList_nil ?_
  refine then_normal ?_
  by_cases h4 : xs0_5 < x.p
  · replace H := ite_yes h4 H
    refine wpc_yes ht rfl (decide_eq_true h4) ?_
    refine wp_skip ?_
    refine then_normal ?_
    refine wp_seq ?_
    refine wp_block ?_
    refine wpr ?_
    refine wpl rfl rfl ht (ev_move ht rfl rfl) ?_
    intro a ht
    refine wpl rfl rfl ht (ev_load_agg ht rfl rfl (ag_28.trans (by first | rw [Col.length_cells] | rfl)) (hm.blk_all 1 rfl)) ?_
    intro a ht
    refine wpl rfl rfl ht (ev_move ht rfl rfl) ?_
    intro a ht
    refine wpl rfl rfl ht (ev_move ht rfl rfl) ?_
    intro a ht
    obtain ⟨t5, et5, H⟩ := bind_get H
    have hcall := spec_l01Around.calls q3 _ _ x xs0_5 c _ ((fun (hq : Ms _ _ _ ([] ++ [.vec As0_1 cs0_2 2 1 ms0_3 (ints ls0_4), .blk b1 28 (Col.cells x)]) _ _) => hq.lend (φp := []) (allRO_nil)) (hm.pick (own' := [] ++ [.vec As0_1 cs0_2 2 1 ms0_3 (ints ls0_4), .blk b1 28 (Col.cells x)]) [0, 1] rfl (by decide))) et5
    refine wpl_call _ rfl rfl ht rfl rfl rfl rfl can_52 hcall ?_
    clear hcall
    rintro _ w ⟨rfl, hpost⟩ a ht
    replace hm := (hm.pick (own' := [] ++ [.vec As0_1 cs0_2 2 1 ms0_3 (ints ls0_4), .blk b1 28 (Col.cells x)]) [0, 1] rfl (by decide)).backL hpost
    clear hpost
    refine wpl_build_ints (l := [t5]) rfl rfl ht hm rfl und_25 zo_2 sz1_2 (by decide) rfl rfl rfl ?_
    intro A6 a ht w hm
    obtain ⟨l10, el10, H⟩ := bind_get H
    refine wpl_push (r := l10) 1 0 rfl rfl ht hm rfl ap_25 rfl rfl rfl rfl el10 ?_
    intro A7 c8 m9 a ht w hm
    refine wpl rfl rfl ht (ev_assign ht rfl rfl) ?_
    intro a ht
    refine wpList_nil ?_
    refine blk_normal ?_
    refine then_normal ?_
    refine wpr ?_
    refine wpl rfl rfl ht (ev_move ht rfl rfl) ?_
    intro a ht
    refine wpl rfl rfl ht (ev_arith ht rfl rfl rfl rfl) ?_
    intro a ht
    refine wpl rfl rfl ht (ev_assign ht rfl rfl) ?_
    intro a ht
    refine wpList_nil ?_
    exact then_normal ⟨q3, by omega, l10, (w64 (xs0_5 + 1)), A7, c8, m9, H, by omega, ht.sub ⟨rfl, rfl, rfl, rfl, rfl, trivial⟩, (hm.pick [1, 2] rfl (by decide)).pickφ [] rfl⟩
  · replace H := ite_no h4 H
    refine wpc_no ht rfl (decide_eq_false h4) ?_
    refine wp_exit ?_
    refine then_exit ?_
    refine then_exit ?_
    refine blk_hit ?_
    refine then_normal ?_
    refine wp_seq ?_
    refine wpr ?_
    refine wpl rfl rfl ht (ev_move ht rfl rfl) ?_
    intro a ht
    refine wpl rfl rfl ht (ev_assign ht rfl rfl) ?_
    intro a ht
    refine wpList_nil ?_
    refine then_normal ?_
    refine wp_ret ?_
    have hres := ht.res (P := Try.prog) (w := w) (rs := [.tmp 4]) (vs := [.slice As0_1 ms0_3 cs0_2]) (.tmp rfl .nil)
    obtain rfl := Option.some.inj H
    exact leave ht rfl hres ⟨As0_1, cs0_2, ms0_3, rfl, ((hm.pick [0] rfl (by decide)).pickφ [] rfl).post fun _ h => h⟩

/-! ### spec_l04Match: function 41 (loop.example/g01362/spec.l04Match) -/
mutual
def spec_l04Match.l0 : Nat → List Int → List Int → Int → Int → Option (Int × List Int)
  | 0, _, _, _, _ => none
  | q5 + 1, rows, table, set, xs0_1 => if (bitop .and .i64 (shrI .i64 set (wu64 xs0_1)) 1) = 0 then (spec_l04Match.l0 q5 rows table set (w64 (xs0_1 + 1))) else ((spec_l04Match.f q5 rows table (bitop .xor .i64 set (shlI .i64 1 (wu64 xs0_1)))).bind fun t7 => spec_l04Match.l1 q5 rows set xs0_1 t7.2 t7.1 (w64 (xs0_1 + 1)))
def spec_l04Match.l1 : Nat → List Int → Int → Int → List Int → Int → Int → Option (Int × List Int)
  | 0, _, _, _, _, _, _ => none
  | q8 + 1, rows, set, xs0_1, ls1_1, xs1_2, xs1_3 => if xs1_3 < (rows.length : Int) then (if (bitop .and .i64 (shrI .i64 (bitop .xor .i64 set (shlI .i64 1 (wu64 xs0_1))) (wu64 xs1_3)) 1) = 1 then ((getI rows xs0_1).bind fun t11 => if (bitop .and .i64 (shrI .i64 t11 (wu64 xs1_3)) 1) = 1 then ((spec_l04Match.f q8 rows ls1_1 (bitop .xor .i64 (bitop .xor .i64 set (shlI .i64 1 (wu64 xs0_1))) (shlI .i64 1 (wu64 xs1_3)))).bind fun t13 => spec_l04Match.l1 q8 rows set xs0_1 t13.2 (max xs1_2 (w64 (1 + t13.1))) (w64 (xs1_3 + 1))) else (spec_l04Match.l1 q8 rows set xs0_1 ls1_1 xs1_2 (w64 (xs1_3 + 1)))) else (spec_l04Match.l1 q8 rows set xs0_1 ls1_1 xs1_2 (w64 (xs1_3 + 1)))) else ((getI ls1_1 set).bind fun t14 => some (xs1_2, ls1_1.set set.toNat xs1_2))
def spec_l04Match.f : Nat → List Int → List Int → Int → Option (Int × List Int)
  | 0, _, _, _ => none
  | k + 1, rows, table, set => if set = 0 then (some (0, table)) else ((getI table set).bind fun t2 => if t2 ≥ 0 then ((getI table set).bind fun t4 => some (t4, table)) else (spec_l04Match.l0 k rows table set 0))
end
set_option maxRecDepth 100000 in
set_option maxHeartbeats 1000000 in
theorem spec_l04Match.calls (k : Nat) (X : List Nat) (w0 : World) (A : Option Addr) (c : Nat) (m : Nat) (A2 : Option Addr) (c2 : Nat) (m2 : Nat) (rows : List Int) (table : List Int) (set : Int) (r : Int × List Int)
    (hp : Pre X w0 [.vec A2 c2 2 1 m2 (ints table)] [IntsAt A c m rows]) (H : spec_l04Match.f k rows table set = some r) :
    Calls Try.prog 41 [.slice A m c, .slice A2 m2 c2, .int .i64 set].toArray w0 (Ret fun v w => v = .int .i64 r.1 ∧ Post X (fps [.vec A2 c2 2 1 m2 (ints table)]) w0 [.vec A2 c2 2 1 m2 (ints r.2)] [] w) := by
  induction k using Nat.strongRecOn generalizing X w0 A c m A2 c2 m2 rows table set r with
  | _ k ih =>
  cases k with
  | zero => cases H
  | succ k =>
  rw [spec_l04Match.f] at H
  refine enterM (n := 80) hp Try.func41 rfl rfl (Nat.le_of_ble_eq_true rfl) fun a w ht hm => ?_
  induction k using Nat.strongRecOn with
  | _ k ih =>
  refine wp_seq ?_
  refine wpr ?_
  refine wpl rfl rfl ht (ev_assign ht rfl rfl) ?_
  intro a ht
  refine wpList_nil ?_
  refine then_normal ?_
  refine wp_seq ?_
  refine wp_seq ?_
  refine wpr ?_
  refine wpl rfl rfl ht (ev_move ht rfl rfl) ?_
  intro a ht
  refine wpl rfl rfl ht (ev_cmp ht rfl rfl rfl rfl) ?_
  intro a ht
  refine wpList_nil ?_
  refine then_normal ?_
  by_cases h1 : set = 0
  · replace H := ite_yes h1 H
    refine wpc_yes ht rfl (decide_eq_true h1) ?_
    refine wp_seq ?_
    refine wpr ?_
    refine wpl rfl rfl ht (ev_assign ht rfl rfl) ?_
    intro a ht
    refine wpList_nil ?_
    refine then_normal ?_
    refine wp_ret ?_
    refine then_ret ?_
    have hres := ht.res (P := Try.prog) (w := w) (rs := [.tmp 6]) (vs := [.int .i64 0]) (.tmp rfl .nil)
    obtain rfl := Option.some.inj H
    exact leave ht rfl hres ⟨rfl, ((hm.pick [0] rfl (by decide)).pickφ [] rfl).post fun _ h => h⟩
  · replace H := ite_no h1 H
    refine wpc_no ht rfl (decide_eq_false h1) ?_
    refine wp_skip ?_
    refine then_normal ?_
    refine wp_seq ?_
    refine wp_seq ?_
    refine wpr ?_
    refine wpl rfl rfl ht (ev_move ht rfl rfl) ?_
    intro a ht
    refine wpl rfl rfl ht (ev_move ht rfl rfl) ?_
    intro a ht
    obtain ⟨t2, et2, H⟩ := bind_get H
    refine wpl rfl rfl ht (ev_index_ints ht rfl rfl rfl so_25 (hm.vec_row 0 rfl) et2) ?_
    intro a ht
    refine wpl rfl rfl ht (ev_load ht rfl rfl sc_2 (RowAt.cell (hm.vec_row 0 rfl) (ints_get et2) rfl)) ?_
    intro a ht
    refine wpl rfl rfl ht (ev_cmp ht rfl rfl rfl rfl) ?_
    intro a ht
    refine wpList_nil ?_
    refine then_normal ?_
    by_cases h3 : t2 ≥ 0
    · replace H := ite_yes h3 H
      refine wpc_yes ht rfl (decide_eq_true h3) ?_
      refine wp_seq ?_
      refine wpr ?_
      refine wpl rfl rfl ht (ev_move ht rfl rfl) ?_
      intro a ht
      refine wpl rfl rfl ht (ev_move ht rfl rfl) ?_
      intro a ht
      obtain ⟨t4, et4, H⟩ := bind_get H
      refine wpl rfl rfl ht (ev_index_ints ht rfl rfl rfl so_25 (hm.vec_row 0 rfl) et4) ?_
      intro a ht
      refine wpl rfl rfl ht (ev_load ht rfl rfl sc_2 (RowAt.cell (hm.vec_row 0 rfl) (ints_get et4) rfl)) ?_
      intro a ht
      refine wpl rfl rfl ht (ev_assign ht rfl rfl) ?_
      intro a ht
      refine wpList_nil ?_
      refine then_normal ?_
      refine wp_ret ?_
      refine then_ret ?_
      have hres := ht.res (P := Try.prog) (w := w) (rs := [.tmp 6]) (vs := [.int .i64 t4]) (.tmp rfl .nil)
      obtain rfl := Option.some.inj H
      exact leave ht rfl hres ⟨rfl, ((hm.pick [0] rfl (by decide)).pickφ [] rfl).post fun _ h => h⟩
    · replace H := ite_no h3 H
      refine wpc_no ht rfl (decide_eq_false h3) ?_
      refine wp_skip ?_
      refine then_normal ?_
      refine wp_seq ?_
      refine wpr ?_
      refine wpl rfl rfl ht (ev_assign ht rfl rfl) ?_
      intro a ht
      refine wpList_nil ?_
      refine then_normal ?_
      refine wp_seq ?_
      refine wp_block ?_
      refine wpLoop (fun q a w => ∃ (xs0_1 : Int), spec_l04Match.l0 q rows table set xs0_1 = some r ∧ q ≤ k ∧ Tm 80 [(0, .slice A m c), (1, .slice A2 m2 c2), (2, .int .i64 set), (6, .int .i64 0), (7, .int .i64 xs0_1)] a ∧ Ms X (fps [.vec A2 c2 2 1 m2 (ints table)]) w0 [.vec A2 c2 2 1 m2 (ints table)] [IntsAt A c m rows] w) (k0 := k) ⟨0, H, Nat.le_refl _, ht.sub ⟨rfl, rfl, rfl, rfl, rfl, trivial⟩, (hm.pick [0] rfl (by decide)).pickφ [0] rfl⟩ ?_
      clear H ht hm
      intro q5 a w hJ
      obtain ⟨xs0_1, H, hqq5, ht, hm⟩ := hJ
      cases q5 with
      | zero => cases H
      | succ q5 =>
      rw [spec_l04Match.l0] at H
      refine wp_seq ?_
      refine wp_seq ?_
      refine wpr ?_
      refine wpl rfl rfl ht (ev_move ht rfl rfl) ?_
      intro a ht
      refine wpl rfl rfl ht (ev_move ht rfl rfl) ?_
      intro a ht
      refine wpl rfl rfl ht (ev_convert ht rfl rfl und_2 und_53) ?_
      intro a ht
      refine wpl rfl rfl ht (ev_shr ht rfl rfl rfl (wrapU_nonneg _ _ rfl)) ?_
      intro a ht
      refine wpl rfl rfl ht (ev_bit ht rfl rfl rfl rfl) ?_
      intro a ht
      refine wpl rfl rfl ht (ev_cmp ht rfl rfl rfl rfl) ?_
      intro a ht
      refine wpList_nil ?_
      refine then_normal ?_
      by_cases h6 : (bitop .and .i64 (shrI .i64 set (wu64 xs0_1)) 1) = 0
      · replace H := ite_yes h6 H
        refine wpc_yes ht rfl (decide_eq_true h6) ?_
        refine wp_skip ?_
        refine then_normal ?_
        refine wp_block ?_
        refine wpr ?_
        refine wpl rfl rfl ht (ev_move ht rfl rfl) ?_
        intro a ht
        refine wpl rfl rfl ht (ev_arith ht rfl rfl rfl rfl) ?_
        intro a ht
        refine wpl rfl rfl ht (ev_assign ht rfl rfl) ?_
        intro a ht
        refine wpList_nil ?_
        refine blk_normal ?_
        exact then_normal ⟨q5, by omega, (w64 (xs0_1 + 1)), H, by omega, ht.sub ⟨rfl, rfl, rfl, rfl, rfl, trivial⟩, (hm.pick [0] rfl (by decide)).pickφ [0] rfl⟩
      · replace H := ite_no h6 H
        refine wpc_no ht rfl (decide_eq_false h6) ?_
        refine wp_exit ?_
        refine then_exit ?_
        refine then_exit ?_
        refine blk_hit ?_
        refine then_normal ?_
        refine wp_seq ?_
        refine wpr ?_
        refine wpl rfl rfl ht (ev_move ht rfl rfl) ?_
        intro a ht
        refine wpl rfl rfl ht (ev_move ht rfl rfl) ?_
        intro a ht
        refine wpl rfl rfl ht (ev_convert ht rfl rfl und_2 und_53) ?_
        intro a ht
        refine wpl rfl rfl ht (ev_shl ht rfl rfl rfl (wrapU_nonneg _ _ rfl)) ?_
        intro a ht
        refine wpl rfl rfl ht (ev_bit ht rfl rfl rfl rfl) ?_
        intro a ht
        refine wpl rfl rfl ht (ev_assign ht rfl rfl) ?_
        intro a ht
        refine wpList_nil ?_
        refine then_normal ?_
        refine wp_seq ?_
        refine wpr ?_
        refine wpl rfl rfl ht (ev_move ht rfl rfl) ?_
        intro a ht
        refine wpl rfl rfl ht (ev_move ht rfl rfl) ?_
        intro a ht
        refine wpl rfl rfl ht (ev_move ht rfl rfl) ?_
        intro a ht
        obtain ⟨t7, et7, H⟩ := bind_get H
        have hcall := ih q5 (by omega) _ _ A c m A2 c2 m2 rows table (bitop .xor .i64 set (shlI .i64 1 (wu64 xs0_1))) _ ((fun (hq : Ms _ _ _ ([.vec A2 c2 2 1 m2 (ints table)] ++ []) _ _) => hq.lend (φp := [IntsAt A c m rows]) (allRO_cons (hq.lendFact 0 rfl) (allRO_nil))) (hm.pick (own' := [.vec A2 c2 2 1 m2 (ints table)] ++ []) [0] rfl (by decide))) et7
        refine wpl_call _ rfl rfl ht rfl rfl rfl rfl can_41 hcall ?_
        clear hcall
        rintro _ w ⟨rfl, hpost⟩ a ht
        replace hm := (hm.pick (own' := [.vec A2 c2 2 1 m2 (ints table)] ++ []) [0] rfl (by decide)).backL hpost
        clear hpost
        refine wpl rfl rfl ht (ev_assign ht rfl rfl) ?_
        intro a ht
        refine wpList_nil ?_
        refine then_normal ?_
        refine wp_seq ?_
        refine wp_seq ?_
        refine wpr ?_
        refine wpl rfl rfl ht (ev_move ht rfl rfl) ?_
        intro a ht
        refine wpl rfl rfl ht (ev_arith ht rfl rfl rfl rfl) ?_
        intro a ht
        refine wpl rfl rfl ht (ev_assign ht rfl rfl) ?_
        intro a ht
        refine wpList_nil ?_
        refine then_normal ?_
        refine wp_block ?_
        refine wpLoop (fun q a w => ∃ (ls1_1 : List Int) (xs1_2 : Int) (xs1_3 : Int), spec_l04Match.l1 q rows set xs0_1 ls1_1 xs1_2 xs1_3 = some r ∧ q ≤ q5 ∧ Tm 80 [(0, .slice A m c), (1, .slice A2 m2 c2), (2, .int .i64 set), (6, .int .i64 0), (7, .int .i64 xs0_1), (8, .int .i64 (bitop .xor .i64 set (shlI .i64 1 (wu64 xs0_1)))), (9, .int .i64 xs1_2), (10, .int .i64 xs1_3)] a ∧ Ms X (fps [.vec A2 c2 2 1 m2 (ints table)]) w0 [.vec A2 c2 2 1 m2 (ints ls1_1)] [IntsAt A c m rows] w) (k0 := q5) ⟨t7.2, t7.1, (w64 (xs0_1 + 1)), H, Nat.le_refl _, ht.sub ⟨rfl, rfl, rfl, rfl, rfl, rfl, rfl, rfl, trivial⟩, (hm.pick [0] rfl (by decide)).pickφ [0] rfl⟩ ?_
        clear H ht hm
        intro q8 a w hJ
        obtain ⟨ls1_1, xs1_2, xs1_3, H, hqq8, ht, hm⟩ := hJ
        cases q8 with
        | zero => cases H
        | succ q8 =>
        rw [spec_l04Match.l1] at H
        refine wp_seq ?_
        refine wp_seq ?_
        refine wpr ?_
        refine wpl rfl rfl ht (ev_move ht rfl rfl) ?_
        intro a ht
        refine wpl rfl rfl ht (ev_move ht rfl rfl) ?_
        intro a ht
        refine wpl rfl rfl ht (ev_len_of ht rfl rfl und_25 (hm.fact (φ := IntsAt A c m rows) 0 rfl)) ?_
        intro a ht
        refine wpl rfl rfl ht (ev_cmp ht rfl rfl rfl rfl) ?_
        intro a ht
        refine wpList_nil ?_
        refine then_normal ?_
        by_cases h9 : xs1_3 < (rows.length : Int)
        · replace H := ite_yes h9 H
          refine wpc_yes ht rfl (decide_eq_true h9) ?_
          refine wp_skip ?_
          refine then_normal ?_
          refine wp_seq ?_
          refine wp_block ?_
          refine wp_seq ?_
          refine wpr ?_
          refine wpl rfl rfl ht (ev_move ht rfl rfl) ?_
          intro a ht
          refine wpl rfl rfl ht (ev_move ht rfl rfl) ?_
          intro a ht
          refine wpl rfl rfl ht (ev_convert ht rfl rfl und_2 und_53) ?_
          intro a ht
          refine wpl rfl rfl ht (ev_shr ht rfl rfl rfl (wrapU_nonneg _ _ rfl)) ?_
          intro a ht
          refine wpl rfl rfl ht (ev_bit ht rfl rfl rfl rfl) ?_
          intro a ht
          refine wpl rfl rfl ht (ev_cmp ht rfl rfl rfl rfl) ?_
          intro a ht
          refine wpl rfl rfl ht (ev_move ht rfl rfl) ?_
          intro a ht
          by_cases h10 : (bitop .and .i64 (shrI .i64 (bitop .xor .i64 set (shlI .i64 1 (wu64 xs0_1))) (wu64 xs1_3)) 1) = 1
          · replace H := ite_yes h10 H
            refine wpl_yes rfl ht rfl ((decide_eq_true h10)) ?_
            refine wpl rfl rfl ht (ev_move ht rfl rfl) ?_
            intro a ht
            refine wpl_yes rfl ht rfl ((decide_eq_true h10)) ?_
            refine wpl rfl rfl ht (ev_move ht rfl rfl) ?_
            intro a ht
            refine wpl_yes rfl ht rfl ((decide_eq_true h10)) ?_
            obtain ⟨t11, et11, H⟩ := bind_get H
            refine wpl rfl rfl ht (ev_index_ints ht rfl rfl rfl so_25 (hm.fact (φ := IntsAt A c m rows) 0 rfl) et11) ?_
            intro a ht
            refine wpl_yes rfl ht rfl ((decide_eq_true h10)) ?_
            refine wpl rfl rfl ht (ev_load ht rfl rfl sc_2 (RowAt.cell (hm.fact (φ := IntsAt A c m rows) 0 rfl) (ints_get et11) rfl)) ?_
            intro a ht
            refine wpl_yes rfl ht rfl ((decide_eq_true h10)) ?_
            refine wpl rfl rfl ht (ev_move ht rfl rfl) ?_
            intro a ht
            refine wpl_yes rfl ht rfl ((decide_eq_true h10)) ?_
            refine wpl rfl rfl ht (ev_convert ht rfl rfl und_2 und_53) ?_
            intro a ht
            refine wpl_yes rfl ht rfl ((decide_eq_true h10)) ?_
            refine wpl rfl rfl ht (ev_shr ht rfl rfl rfl (wrapU_nonneg _ _ rfl)) ?_
            intro a ht
            refine wpl_yes rfl ht rfl ((decide_eq_true h10)) ?_
            refine wpl rfl rfl ht (ev_bit ht rfl rfl rfl rfl) ?_
            intro a ht
            refine wpl_yes rfl ht rfl ((decide_eq_true h10)) ?_
            refine wpl rfl rfl ht (ev_cmp ht rfl rfl rfl rfl) ?_
            intro a ht
            refine wpl rfl rfl ht (ev_pick_yes ht rfl rfl (decide_eq_true h10) rfl) ?_
            intro a ht
            refine wpList_nil ?_
            refine then_normal ?_
            by_cases h12 : (bitop .and .i64 (shrI .i64 t11 (wu64 xs1_3)) 1) = 1
            · replace H := ite_yes h12 H
              refine wpc_yes ht rfl (decide_eq_true h12) ?_
              refine wpr ?_
              refine wpl rfl rfl ht (ev_move ht rfl rfl) ?_
              intro a ht
              refine wpl rfl rfl ht (ev_move ht rfl rfl) ?_
              intro a ht
              refine wpl rfl rfl ht (ev_move ht rfl rfl) ?_
              intro a ht
              refine wpl rfl rfl ht (ev_move ht rfl rfl) ?_
              intro a ht
              refine wpl rfl rfl ht (ev_move ht rfl rfl) ?_
              intro a ht
              refine wpl rfl rfl ht (ev_convert ht rfl rfl und_2 und_53) ?_
              intro a ht
              refine wpl rfl rfl ht (ev_shl ht rfl rfl rfl (wrapU_nonneg _ _ rfl)) ?_
              intro a ht
              refine wpl rfl rfl ht (ev_bit ht rfl rfl rfl rfl) ?_
              intro a ht
              obtain ⟨t13, et13, H⟩ := bind_get H
              have hcall := ih q8 (by omega) _ _ A c m A2 c2 m2 rows ls1_1 (bitop .xor .i64 (bitop .xor .i64 set (shlI .i64 1 (wu64 xs0_1))) (shlI .i64 1 (wu64 xs1_3))) _ ((fun (hq : Ms _ _ _ ([.vec A2 c2 2 1 m2 (ints ls1_1)] ++ []) _ _) => hq.lend (φp := [IntsAt A c m rows]) (allRO_cons (hq.lendFact 0 rfl) (allRO_nil))) (hm.pick (own' := [.vec A2 c2 2 1 m2 (ints ls1_1)] ++ []) [0] rfl (by decide))) et13
              refine wpl_call _ rfl rfl ht rfl rfl rfl rfl can_41 hcall ?_
              clear hcall
              rintro _ w ⟨rfl, hpost⟩ a ht
              replace hm := (hm.pick (own' := [.vec A2 c2 2 1 m2 (ints ls1_1)] ++ []) [0] rfl (by decide)).backL hpost
              clear hpost
              refine wpl rfl rfl ht (ev_arith ht rfl rfl rfl rfl) ?_
              intro a ht
              refine wpl rfl rfl ht (ev_max ht rfl rfl rfl) ?_
              intro a ht
              refine wpl rfl rfl ht (ev_assign ht rfl rfl) ?_
              intro a ht
              refine wpList_nil ?_
              refine blk_normal ?_
              refine then_normal ?_
              refine wpr ?_
              refine wpl rfl rfl ht (ev_move ht rfl rfl) ?_
              intro a ht
              refine wpl rfl rfl ht (ev_arith ht rfl rfl rfl rfl) ?_
              intro a ht
              refine wpl rfl rfl ht (ev_assign ht rfl rfl) ?_
              intro a ht
              refine wpList_nil ?_
              exact then_normal ⟨q8, by omega, t13.2, (max xs1_2 (w64 (1 + t13.1))), (w64 (xs1_3 + 1)), H, by omega, ht.sub ⟨rfl, rfl, rfl, rfl, rfl, rfl, rfl, rfl, trivial⟩, (hm.pick [0] rfl (by decide)).pickφ [0] rfl⟩
            · replace H := ite_no h12 H
              refine wpc_no ht rfl (decide_eq_false h12) ?_
              refine wp_skip ?_
              refine blk_normal ?_
              refine then_normal ?_
              refine wpr ?_
              refine wpl rfl rfl ht (ev_move ht rfl rfl) ?_
              intro a ht
              refine wpl rfl rfl ht (ev_arith ht rfl rfl rfl rfl) ?_
              intro a ht
              refine wpl rfl rfl ht (ev_assign ht rfl rfl) ?_
              intro a ht
              refine wpList_nil ?_
              exact then_normal ⟨q8, by omega, ls1_1, xs1_2, (w64 (xs1_3 + 1)), H, by omega, ht.sub ⟨rfl, rfl, rfl, rfl, rfl, rfl, rfl, rfl, trivial⟩, (hm.pick [0] rfl (by decide)).pickφ [0] rfl⟩
          · replace H := ite_no h10 H
            refine wpl_no rfl rfl ht rfl (by rw [(decide_eq_false h10)]; decide) ?_
            intro a ht
            refine wpl_no rfl rfl ht rfl (by rw [(decide_eq_false h10)]; decide) ?_
            intro a ht
            refine wpl_no rfl rfl ht rfl (by rw [(decide_eq_false h10)]; decide) ?_
            intro a ht
            refine wpl_no rfl rfl ht rfl (by rw [(decide_eq_false h10)]; decide) ?_
            intro a ht
            refine wpl_no rfl rfl ht rfl (by rw [(decide_eq_false h10)]; decide) ?_
            intro a ht
            refine wpl_no rfl rfl ht rfl (by rw [(decide_eq_false h10)]; decide) ?_
            intro a ht
            refine wpl_no rfl rfl ht rfl (by rw [(decide_eq_false h10)]; decide) ?_
            intro a ht
            refine wpl_no rfl rfl ht rfl (by rw [(decide_eq_false h10)]; decide) ?_
            intro a ht
            refine wpl_no rfl rfl ht rfl (by rw [(decide_eq_false h10)]; decide) ?_
            intro a ht
            refine wpl rfl rfl ht (ev_pick_no ht rfl rfl (decide_eq_false h10) rfl) ?_
            intro a ht
            refine wpList_nil ?_
            refine then_normal ?_
            refine wpc_no ht rfl rfl ?_
            refine wp_skip ?_
            refine blk_normal ?_
            refine then_normal ?_
            refine wpr ?_
            refine wpl rfl rfl ht (ev_move ht rfl rfl) ?_
            intro a ht
            refine wpl rfl rfl ht (ev_arith ht rfl rfl rfl rfl) ?_
            intro a ht
            refine wpl rfl rfl ht (ev_assign ht rfl rfl) ?_
            intro a ht
            refine wpList_nil ?_
            exact then_normal ⟨q8, by omega, ls1_1, xs1_2, (w64 (xs1_3 + 1)), H, by omega, ht.sub ⟨rfl, rfl, rfl, rfl, rfl, rfl, rfl, rfl, trivial⟩, (hm.pick [0] rfl (by decide)).pickφ [0] rfl⟩
        · replace H := ite_no h9 H
          refine wpc_no ht rfl (decide_eq_false h9) ?_
          refine wp_exit ?_
          refine then_exit ?_
          refine then_exit ?_
          refine blk_hit ?_
          refine then_normal ?_
          refine wp_seq ?_
          refine wpr ?_
          refine wpl rfl rfl ht (ev_move ht rfl rfl) ?_
          intro a ht
          refine wpl rfl rfl ht (ev_move ht rfl rfl) ?_
          intro a ht
          refine wpl rfl rfl ht (ev_move ht rfl rfl) ?_
          intro a ht
          obtain ⟨t14, et14, H⟩ := bind_get H
          refine wpl rfl rfl ht (ev_index_ints ht rfl rfl rfl so_25 (hm.vec_row 0 rfl) et14) ?_
          intro a ht
          refine wpl_store_int 0 rfl rfl ht hm rfl rfl rfl sz1_2 rfl et14 ?_
          intro a ht w hm
          refine wpList_nil ?_
          refine then_normal ?_
          refine wp_seq ?_
          refine wpr ?_
          refine wpl rfl rfl ht (ev_move ht rfl rfl) ?_
          intro a ht
          refine wpl rfl rfl ht (ev_assign ht rfl rfl) ?_
          intro a ht
          refine wpList_nil ?_
          refine then_normal ?_
          refine wp_ret ?_
          have hres := ht.res (P := Try.prog) (w := w) (rs := [.tmp 6]) (vs := [.int .i64 xs1_2]) (.tmp rfl .nil)
          obtain rfl := Option.some.inj H
          exact leave ht rfl hres ⟨rfl, ((hm.pick [0] rfl (by decide)).pickφ [] rfl).post fun _ h => h⟩

end Go.Proofs.Ytjhcacfhahpdgaa.G
