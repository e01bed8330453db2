/- What each Go function computes, as a Lean function, and the proof that it does: written by a program of this session (wip/gen), part 4. -/
import Derived.Test.YtocjhmeekecdiaaGFnExactFirstExtension3
namespace Go.Proofs.Ytocjhmeekecdiaa.G
open Go Go.RowKit Go.Proofs.Ytocjhmeekecdiaa.K
set_option linter.unusedVariables false
set_option linter.unusedSimpArgs false

/-! ### spec_l05Search: function 57 (loop.example/g01362/spec.l05Search) -/
mutual
def spec_l05Search.l0 : Nat → Col → List Int → List Int → List Int → Int → List (List Int) → Int → Option (List (List Int))
  | 0, _, _, _, _, _, _, _ => none
  | q6 + 1, x, sizes, colours, sets, most, ls0_4, xs0_6 => if xs0_6 < x.k then (if (ls0_4.length : Int) < most then ((getI sizes xs0_6).bind fun t9 => if t9 < 2 then (spec_l05Search.l0 q6 x sizes colours sets most ls0_4 (w64 (xs0_6 + 1))) else ((getI sets xs0_6).bind fun t11 => (getI sizes xs0_6).bind fun t12 => (spec_l01Around.f q6 x (colours.length : Int) xs0_6).bind fun t13 => (spec_l03Clique.f q6 x xs0_6 (bitop .and .i64 t11 t13) (w64 (t12 - 2))).bind fun t14 => if t14 = true then (spec_l05Search.l0 q6 x sizes colours sets most ls0_4 (w64 (xs0_6 + 1))) else ((spec_l01Own.f sets).bind fun t16 => (getI t16 xs0_6).bind fun t20 => (getI t16 xs0_6).bind fun t21 => (spec_l01Own.f colours).bind fun t22 => (push t22 xs0_6).bind fun l30 => (spec_l05Search.f q6 x sizes l30 (t16.set xs0_6.toNat (bitop .or .i64 t20 (shlI .i64 1 (wu64 (colours.length : Int))))) (w64 (most - (ls0_4.length : Int)))).bind fun t31 => (concatR ls0_4 t31).bind fun l39 => spec_l05Search.l0 q6 x sizes colours sets most l39 (w64 (xs0_6 + 1))))) else (some ls0_4)) else (some ls0_4)
def spec_l05Search.f : Nat → Col → List Int → List Int → List Int → Int → Option (List (List Int))
  | 0, _, _, _, _, _ => none
  | k + 1, x, sizes, colours, sets, most => if (colours.length : Int) = x.p then (some ([colours])) else (spec_l05Search.l0 k x sizes colours sets most ([] : List (List Int)) 0)
end
set_option maxRecDepth 100000 in
set_option maxHeartbeats 1000000 in
theorem spec_l05Search.calls (k : Nat) (X : List Nat) (w0 : World) (A : Option Addr) (c : Nat) (m : Nat) (A2 : Option Addr) (c2 : Nat) (m2 : Nat) (A3 : Option Addr) (c3 : Nat) (m3 : Nat) (x : Col) (sizes : List Int) (colours : List Int) (sets : List Int) (most : Int) (r : List (List Int))
    (hp : Pre X w0 [] [IntsAt A c m sizes, IntsAt A2 c2 m2 colours, IntsAt A3 c3 m3 sets]) (H : spec_l05Search.f k x sizes colours sets most = some r) :
    Calls Try.prog 57 [.agg (Col.cells x).toArray, .slice A m c, .slice A2 m2 c2, .slice A3 m3 c3, .int .i64 most].toArray w0 (Ret fun v w => ∃ (A_0 : Option Addr) (c_0 : Nat) (n_0 : Nat) (vs_0 : List Value), v = .slice A_0 n_0 c_0 ∧ Post X (fps []) w0 [.vec A_0 c_0 25 1 n_0 vs_0] [AllInts vs_0 r] w) := by
  induction k using Nat.strongRecOn generalizing X w0 A c m A2 c2 m2 A3 c3 m3 x sizes colours sets most r with
  | _ k ih =>
  cases k with
  | zero => cases H
  | succ k =>
  rw [spec_l05Search.f] at H
  refine enterM (n := 89) hp Try.func57 rfl rfl (Nat.le_of_ble_eq_true rfl) fun a w ht hm => ?_
  induction k using Nat.strongRecOn with
  | _ k ih =>
  refine wp_seq ?_
  refine wpr ?_
  refine wpl_box rfl rfl ht hm rfl rfl rfl ?_
  intro b1 a ht w hm
  refine wpl rfl rfl ht (ev_assign ht rfl rfl) ?_
  intro a ht
  refine wpList_nil ?_
  refine then_normal ?_
  refine wp_seq ?_
  refine wpr ?_
  refine wpl rfl rfl ht (ev_move ht rfl rfl) ?_
  intro a ht
  refine wpl rfl rfl ht (ev_len_of ht rfl rfl und_25 (hm.fact (φ := IntsAt A2 c2 m2 colours) 1 rfl)) ?_
  intro a ht
  refine wpl rfl rfl ht (ev_assign ht rfl rfl) ?_
  intro a ht
  refine wpList_nil ?_
  refine then_normal ?_
  refine wp_seq ?_
  refine wp_seq ?_
  refine wpr ?_
  refine wpl rfl rfl ht (ev_move ht rfl rfl) ?_
  intro a ht
  refine wpl rfl rfl ht (ev_fieldAddr ht rfl rfl fo_28_0) ?_
  intro a ht
  refine wpl rfl rfl ht (ev_load ht rfl rfl sc_2 (hm.blk_cell 0 rfl rfl)) ?_
  intro a ht
  refine wpl rfl rfl ht (ev_cmp ht rfl rfl rfl rfl) ?_
  intro a ht
  refine wpList_nil ?_
  refine then_normal ?_
  by_cases h2 : (colours.length : Int) = x.p
  · replace H := ite_yes h2 H
    refine wpc_yes ht rfl (decide_eq_true h2) ?_
    refine wp_seq ?_
    refine wpr ?_
    refine wpl rfl rfl ht (ev_move ht rfl rfl) ?_
    intro a ht
    replace hm : Ms _ _ _ _ (AllInts ([.slice A2 m2 c2]) ([colours]) :: _) w := hm.addφ (allInts_cons (hm.ro 1 rfl) (allInts_nil))
    refine wpl_buildSlice (vs := [.slice A2 m2 c2]) rfl rfl ht hm rfl und_38 zo_25 sz1_25 (by decide) rfl rfl rfl ?_
    intro A4 a ht w hm
    refine wpl rfl rfl ht (ev_assign ht rfl rfl) ?_
    intro a ht
    refine wpList_nil ?_
    refine then_normal ?_
    refine wp_ret ?_
    refine then_ret ?_
    have hres := ht.res (P := Try.prog) (w := w) (rs := [.tmp 10]) (vs := [.slice A4 1 1]) (.tmp rfl .nil)
    obtain rfl := Option.some.inj H
    exact leave ht rfl hres ⟨A4, 1, 1, [.slice A2 m2 c2], rfl, ((hm.pick [0] rfl (by decide)).pickφ [0] rfl).post fun _ h => h⟩
  · replace H := ite_no h2 H
    refine wpc_no ht rfl (decide_eq_false h2) ?_
    refine wp_skip ?_
    refine then_normal ?_
    refine wp_seq ?_
    refine wpr ?_
    replace hm : Ms _ _ _ _ (AllInts ([]) ([] : List (List Int)) :: _) w := hm.addφ (allInts_nil)
    refine wpl_buildSlice (vs := []) rfl rfl ht hm rfl und_38 zo_25 sz1_25 (by decide) rfl rfl rfl ?_
    intro A5 a ht w hm
    refine wpl rfl rfl ht (ev_assign ht rfl rfl) ?_
    intro a ht
    refine wpList_nil ?_
    refine then_normal ?_
    refine wp_seq ?_
    refine wp_seq ?_
    refine wpr ?_
    refine wpl rfl rfl ht (ev_assign ht rfl rfl) ?_
    intro a ht
    refine wpList_nil ?_
    refine then_normal ?_
    refine wp_block ?_
    refine wpLoop (fun q a w => ∃ (ls0_4 : List (List Int)) (xs0_6 : Int) (As0_1 : Option Addr) (cs0_2 : Nat) (ms0_3 : Nat) (vss0_5 : List Value), spec_l05Search.l0 q x sizes colours sets most ls0_4 xs0_6 = some r ∧ q ≤ k ∧ Tm 89 [(1, .slice A m c), (2, .slice A2 m2 c2), (3, .slice A3 m3 c3), (4, .int .i64 most), (5, .pointer (some ⟨b1, 0, none⟩)), (10, .slice none 0 0), (11, .int .i64 (colours.length : Int)), (12, .slice As0_1 ms0_3 cs0_2), (13, .int .i64 xs0_6)] a ∧ Ms X (fps []) w0 [.vec As0_1 cs0_2 25 1 ms0_3 vss0_5, .blk b1 28 (Col.cells x)] [IntsAt A c m sizes, IntsAt A2 c2 m2 colours, IntsAt A3 c3 m3 sets, AllInts vss0_5 ls0_4] w) (k0 := k) ⟨([] : List (List Int)), 0, A5, 0, 0, ([]), H, Nat.le_refl _, ht.sub ⟨rfl, rfl, rfl, rfl, rfl, rfl, rfl, rfl, rfl, trivial⟩, (hm.pick [0, 1] rfl (by decide)).pickφ [1, 2, 3, 0] rfl⟩ ?_
    clear H ht hm
    intro q6 a w hJ
    obtain ⟨ls0_4, xs0_6, As0_1, cs0_2, ms0_3, vss0_5, H, hqq6, ht, hm⟩ := hJ
    cases q6 with
    | zero => cases H
    | succ q6 =>
    rw [spec_l05Search.l0] at H
    refine wp_seq ?_
    refine wp_seq ?_
    refine wpr ?_
    refine wpl rfl rfl ht (ev_move ht rfl rfl) ?_
    intro a ht
    refine wpl rfl rfl ht (ev_fieldAddr ht rfl rfl fo_28_1) ?_
    intro a ht
    refine wpl rfl rfl ht (ev_load ht rfl rfl sc_2 (hm.blk_cell 1 rfl rfl)) ?_
    intro a ht
    refine wpl rfl rfl ht (ev_cmp ht rfl rfl rfl rfl) ?_
    intro a ht
    refine wpl rfl rfl ht (ev_move ht rfl rfl) ?_
    intro a ht
    by_cases h7 : xs0_6 < x.k
    · replace H := ite_yes h7 H
      refine wpl_yes rfl ht rfl ((decide_eq_true h7)) ?_
      refine wpl rfl rfl ht (ev_move ht rfl rfl) ?_
      intro a ht
      refine wpl_yes rfl ht rfl ((decide_eq_true h7)) ?_
      refine wpl rfl rfl ht (ev_len_rows ht rfl rfl und_38 (hm.rowsOf 0 3 rfl rfl)) ?_
      intro a ht
      refine wpl_yes rfl ht rfl ((decide_eq_true h7)) ?_
      refine wpl rfl rfl ht (ev_move ht rfl rfl) ?_
      intro a ht
      refine wpl_yes rfl ht rfl ((decide_eq_true h7)) ?_
      refine wpl rfl rfl ht (ev_cmp ht rfl rfl rfl rfl) ?_
      intro a ht
      refine wpl rfl rfl ht (ev_pick_yes ht rfl rfl (decide_eq_true h7) rfl) ?_
      intro a ht
      refine wpList_nil ?_
      refine then_normal ?_
      by_cases h8 : (ls0_4.length : Int) < most
      · replace H := ite_yes h8 H
        refine wpc_yes ht rfl (decide_eq_true h8) ?_
        refine wp_skip ?_
        refine then_normal ?_
        refine wp_seq ?_
        refine wp_block ?_
        refine wp_seq ?_
        refine wp_seq ?_
        refine wph_begin (fun w => Ms X (fps []) w0 [.vec As0_1 cs0_2 25 1 ms0_3 vss0_5, .blk b1 28 (Col.cells x)] [IntsAt A c m sizes, IntsAt A2 c2 m2 colours, IntsAt A3 c3 m3 sets, AllInts vss0_5 ls0_4] w) mixed ?_
        replace hm := hm.drew
        have hS : Ms X (fps []) w0 [.vec As0_1 cs0_2 25 1 ms0_3 vss0_5, .blk b1 28 (Col.cells x)] [IntsAt A c m sizes, IntsAt A2 c2 m2 colours, IntsAt A3 c3 m3 sets, AllInts vss0_5 ls0_4] w.drew := (hm.pick [0, 1] rfl (by decide)).pickφ [0, 1, 2, 3] rfl
        generalize w.drew = w at hm hS ⊢
        refine wph_take (i := 0) rfl (by kernel_rfl) (by kernel_rfl) (by kernel_rfl) (fun _ _ _ h => h) rfl ht hS (wanted_plain rfl) (fun w hm => ev_move ht rfl rfl) ?_
        intro a ht
        refine wph_take (i := 1) rfl (by kernel_rfl) (by kernel_rfl) (by kernel_rfl) (fun _ _ _ h => h) rfl ht hS (wanted_plain rfl) (fun w hm => ev_move ht rfl rfl) ?_
        intro a ht
        obtain ⟨t9, et9, H⟩ := bind_get H
        refine wph_take (i := 2) rfl (by kernel_rfl) (by kernel_rfl) (by kernel_rfl) (fun _ _ _ h => h) rfl ht hS (wanted_plain rfl) (fun w hm => ev_index_ints ht rfl rfl rfl so_25 (hm.fact (φ := IntsAt A c m sizes) 0 rfl) et9) ?_
        intro a ht
        refine wph_take (i := 3) rfl (by kernel_rfl) (by kernel_rfl) (by kernel_rfl) (fun _ _ _ h => h) rfl ht hS (wanted_plain rfl) (fun w hm => ev_load ht rfl rfl sc_2 (RowAt.cell (hm.fact (φ := IntsAt A c m sizes) 0 rfl) (ints_get et9) rfl)) ?_
        intro a ht
        refine wph_take (i := 4) rfl (by kernel_rfl) (by kernel_rfl) (by kernel_rfl) (fun _ _ _ h => h) rfl ht hS (wanted_plain rfl) (fun w hm => ev_cmp ht rfl rfl rfl rfl) ?_
        intro a ht
        refine wph_take (i := 5) rfl (by kernel_rfl) (by kernel_rfl) (by kernel_rfl) (fun _ _ _ h => h) rfl ht hS (wanted_plain rfl) (fun w hm => ev_move ht rfl rfl) ?_
        intro a ht
        by_cases h10 : t9 < 2
        · replace H := ite_yes h10 H
          refine wph_pass (i := 6) rfl (by kernel_rfl) (by kernel_rfl) (by kernel_rfl) (fun _ _ _ h => h) rfl ht hS (wanted_no rfl ht rfl (by rw [(decide_eq_true h10)]; decide)) ?_
          intro a ht
          refine wph_pass (i := 7) rfl (by kernel_rfl) (by kernel_rfl) (by kernel_rfl) (fun _ _ _ h => h) rfl ht hS (wanted_no rfl ht rfl (by rw [(decide_eq_true h10)]; decide)) ?_
          intro a ht
          refine wph_pass (i := 8) rfl (by kernel_rfl) (by kernel_rfl) (by kernel_rfl) (fun _ _ _ h => h) rfl ht hS (wanted_no rfl ht rfl (by rw [(decide_eq_true h10)]; decide)) ?_
          intro a ht
          refine wph_pass (i := 9) rfl (by kernel_rfl) (by kernel_rfl) (by kernel_rfl) (fun _ _ _ h => h) rfl ht hS (wanted_no rfl ht rfl (by rw [(decide_eq_true h10)]; decide)) ?_
          intro a ht
          refine wph_pass (i := 10) rfl (by kernel_rfl) (by kernel_rfl) (by kernel_rfl) (fun _ _ _ h => h) rfl ht hS (wanted_no rfl ht rfl (by rw [(decide_eq_true h10)]; decide)) ?_
          intro a ht
          refine wph_pass (i := 11) rfl (by kernel_rfl) (by kernel_rfl) (by kernel_rfl) (fun _ _ _ h => h) rfl ht hS (wanted_no rfl ht rfl (by rw [(decide_eq_true h10)]; decide)) ?_
          intro a ht
          refine wph_pass (i := 12) rfl (by kernel_rfl) (by kernel_rfl) (by kernel_rfl) (fun _ _ _ h => h) rfl ht hS (wanted_no rfl ht rfl (by rw [(decide_eq_true h10)]; decide)) ?_
          intro a ht
          refine wph_pass (i := 13) rfl (by kernel_rfl) (by kernel_rfl) (by kernel_rfl) (fun _ _ _ h => h) rfl ht hS (wanted_no rfl ht rfl (by rw [(decide_eq_true h10)]; decide)) ?_
          intro a ht
          refine wph_pass (i := 14) rfl (by kernel_rfl) (by kernel_rfl) (by kernel_rfl) (fun _ _ _ h => h) rfl ht hS (wanted_no rfl ht rfl (by rw [(decide_eq_true h10)]; decide)) ?_
          intro a ht
          refine wph_pass (i := 15) rfl (by kernel_rfl) (by kernel_rfl) (by kernel_rfl) (fun _ _ _ h => h) rfl ht hS (wanted_no rfl ht rfl (by rw [(decide_eq_true h10)]; decide)) ?_
          intro a ht
          refine wph_pass (i := 16) rfl (by kernel_rfl) (by kernel_rfl) (by kernel_rfl) (fun _ _ _ h => h) rfl ht hS (wanted_no rfl ht rfl (by rw [(decide_eq_true h10)]; decide)) ?_
          intro a ht
          refine wph_pass (i := 17) rfl (by kernel_rfl) (by kernel_rfl) (by kernel_rfl) (fun _ _ _ h => h) rfl ht hS (wanted_no rfl ht rfl (by rw [(decide_eq_true h10)]; decide)) ?_
          intro a ht
          refine wph_pass (i := 18) rfl (by kernel_rfl) (by kernel_rfl) (by kernel_rfl) (fun _ _ _ h => h) rfl ht hS (wanted_no rfl ht rfl (by rw [(decide_eq_true h10)]; decide)) ?_
          intro a ht
          refine wph_pass (i := 19) rfl (by kernel_rfl) (by kernel_rfl) (by kernel_rfl) (fun _ _ _ h => h) rfl ht hS (wanted_no rfl ht rfl (by rw [(decide_eq_true h10)]; decide)) ?_
          intro a ht
          refine wph_pass (i := 20) rfl (by kernel_rfl) (by kernel_rfl) (by kernel_rfl) (fun _ _ _ h => h) rfl ht hS (wanted_no rfl ht rfl (by rw [(decide_eq_true h10)]; decide)) ?_
          intro a ht
          refine wph_pass (i := 21) rfl (by kernel_rfl) (by kernel_rfl) (by kernel_rfl) (fun _ _ _ h => h) rfl ht hS (wanted_no rfl ht rfl (by rw [(decide_eq_true h10)]; decide)) ?_
          intro a ht
          refine wph_pass (i := 22) rfl (by kernel_rfl) (by kernel_rfl) (by kernel_rfl) (fun _ _ _ h => h) rfl ht hS (wanted_no rfl ht rfl (by rw [(decide_eq_true h10)]; decide)) ?_
          intro a ht
          refine wph_take (i := 23) rfl (by kernel_rfl) (by kernel_rfl) (by kernel_rfl) (fun _ _ _ h => h) rfl ht hS (wanted_plain rfl) (fun w hm => ev_pick_yes ht rfl rfl (decide_eq_true h10) rfl) ?_
          intro a ht
          refine wph_done (by kernel_rfl) ?_
          refine then_normal ?_
          refine wpc_yes ht rfl rfl ?_
          refine wp_exit ?_
          refine then_exit ?_
          refine blk_hit ?_
          refine then_normal ?_
          refine wpr ?_
          refine wpl rfl rfl ht (ev_move ht rfl rfl) ?_
          intro a ht
          refine wpl rfl rfl ht (ev_arith ht rfl rfl rfl rfl) ?_
          intro a ht
          refine wpl rfl rfl ht (ev_assign ht rfl rfl) ?_
          intro a ht
          refine wpList_nil ?_
          exact then_normal ⟨q6, by omega, ls0_4, (w64 (xs0_6 + 1)), As0_1, cs0_2, ms0_3, vss0_5, H, by omega, ht.sub ⟨rfl, rfl, rfl, rfl, rfl, rfl, rfl, rfl, rfl, trivial⟩, (hm.pick [0, 1] rfl (by decide)).pickφ [0, 1, 2, 3] rfl⟩
        · replace H := ite_no h10 H
          refine wph_take (i := 6) rfl (by kernel_rfl) (by kernel_rfl) (by kernel_rfl) (fun _ _ _ h => h) rfl ht hS (wanted_yes rfl ht rfl ((decide_eq_false h10))) (fun w hm => ev_load_agg ht rfl rfl (ag_28.trans (by first | rw [Col.length_cells] | rfl)) (hm.blk_all 1 rfl)) ?_
          intro a ht
          refine wph_take (i := 7) rfl (by kernel_rfl) (by kernel_rfl) (by kernel_rfl) (fun _ _ _ h => h) rfl ht hS (wanted_yes rfl ht rfl ((decide_eq_false h10))) (fun w hm => ev_move ht rfl rfl) ?_
          intro a ht
          refine wph_take (i := 8) rfl (by kernel_rfl) (by kernel_rfl) (by kernel_rfl) (fun _ _ _ h => h) rfl ht hS (wanted_yes rfl ht rfl ((decide_eq_false h10))) (fun w hm => ev_move ht rfl rfl) ?_
          intro a ht
          refine wph_take (i := 9) rfl (by kernel_rfl) (by kernel_rfl) (by kernel_rfl) (fun _ _ _ h => h) rfl ht hS (wanted_yes rfl ht rfl ((decide_eq_false h10))) (fun w hm => ev_move ht rfl rfl) ?_
          intro a ht
          obtain ⟨t11, et11, H⟩ := bind_get H
          refine wph_take (i := 10) rfl (by kernel_rfl) (by kernel_rfl) (by kernel_rfl) (fun _ _ _ h => h) rfl ht hS (wanted_yes rfl ht rfl ((decide_eq_false h10))) (fun w hm => ev_index_ints ht rfl rfl rfl so_25 (hm.fact (φ := IntsAt A3 c3 m3 sets) 2 rfl) et11) ?_
          intro a ht
          refine wph_take (i := 11) rfl (by kernel_rfl) (by kernel_rfl) (by kernel_rfl) (fun _ _ _ h => h) rfl ht hS (wanted_yes rfl ht rfl ((decide_eq_false h10))) (fun w hm => ev_load ht rfl rfl sc_2 (RowAt.cell (hm.fact (φ := IntsAt A3 c3 m3 sets) 2 rfl) (ints_get et11) rfl)) ?_
          intro a ht
          refine wph_take (i := 12) rfl (by kernel_rfl) (by kernel_rfl) (by kernel_rfl) (fun _ _ _ h => h) rfl ht hS (wanted_yes rfl ht rfl ((decide_eq_false h10))) (fun w hm => ev_load_agg ht rfl rfl (ag_28.trans (by first | rw [Col.length_cells] | rfl)) (hm.blk_all 1 rfl)) ?_
          intro a ht
          refine wph_take (i := 13) rfl (by kernel_rfl) (by kernel_rfl) (by kernel_rfl) (fun _ _ _ h => h) rfl ht hS (wanted_yes rfl ht rfl ((decide_eq_false h10))) (fun w hm => ev_move ht rfl rfl) ?_
          intro a ht
          refine wph_take (i := 14) rfl (by kernel_rfl) (by kernel_rfl) (by kernel_rfl) (fun _ _ _ h => h) rfl ht hS (wanted_yes rfl ht rfl ((decide_eq_false h10))) (fun w hm => ev_move ht rfl rfl) ?_
          intro a ht
          refine wph_take (i := 17) rfl (by kernel_rfl) (by kernel_rfl) (by kernel_rfl) (fun _ _ _ h => h) rfl ht hS (wanted_yes rfl ht rfl ((decide_eq_false h10))) (fun w hm => ev_move ht rfl rfl) ?_
          intro a ht
          refine wph_take (i := 18) rfl (by kernel_rfl) (by kernel_rfl) (by kernel_rfl) (fun _ _ _ h => h) rfl ht hS (wanted_yes rfl ht rfl ((decide_eq_false h10))) (fun w hm => ev_move ht rfl rfl) ?_
          intro a ht
          obtain ⟨t12, et12, H⟩ := bind_get H
          refine wph_take (i := 19) rfl (by kernel_rfl) (by kernel_rfl) (by kernel_rfl) (fun _ _ _ h => h) rfl ht hS (wanted_yes rfl ht rfl ((decide_eq_false h10))) (fun w hm => ev_index_ints ht rfl rfl rfl so_25 (hm.fact (φ := IntsAt A c m sizes) 0 rfl) et12) ?_
          intro a ht
          refine wph_take (i := 20) rfl (by kernel_rfl) (by kernel_rfl) (by kernel_rfl) (fun _ _ _ h => h) rfl ht hS (wanted_yes rfl ht rfl ((decide_eq_false h10))) (fun w hm => ev_load ht rfl rfl sc_2 (RowAt.cell (hm.fact (φ := IntsAt A c m sizes) 0 rfl) (ints_get et12) rfl)) ?_
          intro a ht
          refine wph_take (i := 21) rfl (by kernel_rfl) (by kernel_rfl) (by kernel_rfl) (fun _ _ _ h => h) rfl ht hS (wanted_yes rfl ht rfl ((decide_eq_false h10))) (fun w hm => ev_arith ht rfl rfl rfl rfl) ?_
          intro a ht
          refine wph_one (i := 15) (by kernel_rfl) (wph_step rfl ?_)
          refine wpl_yes rfl ht rfl ((decide_eq_false h10)) ?_
          obtain ⟨t13, et13, H⟩ := bind_get H
          have hcall := spec_l01Around.calls q6 _ _ x (colours.length : Int) xs0_6 _ ((fun (hq : Ms _ _ _ ([] ++ [.vec As0_1 cs0_2 25 1 ms0_3 vss0_5, .blk b1 28 (Col.cells x)]) _ _) => hq.lend (φp := []) (allRO_nil)) (hm.pick (own' := [] ++ [.vec As0_1 cs0_2 25 1 ms0_3 vss0_5, .blk b1 28 (Col.cells x)]) [0, 1] rfl (by decide))) et13
          refine wpl_call _ rfl rfl ht rfl rfl rfl rfl can_47 hcall ?_
          clear hcall
          rintro _ w ⟨rfl, hpost⟩ a ht
          replace hm := (hm.pick (own' := [] ++ [.vec As0_1 cs0_2 25 1 ms0_3 vss0_5, .blk b1 28 (Col.cells x)]) [0, 1] rfl (by decide)).backL hpost
          clear hpost
          have hS : Ms X (fps []) w0 [.vec As0_1 cs0_2 25 1 ms0_3 vss0_5, .blk b1 28 (Col.cells x)] [IntsAt A c m sizes, IntsAt A2 c2 m2 colours, IntsAt A3 c3 m3 sets, AllInts vss0_5 ls0_4] w := (hm.pick [0, 1] rfl (by decide)).pickφ [0, 1, 2, 3] rfl
          refine wpList_nil (qn ⟨hS, ?_⟩)
          refine wph_take (i := 16) rfl (by kernel_rfl) (by kernel_rfl) (by kernel_rfl) (fun _ _ _ h => h) rfl ht hS (wanted_yes rfl ht rfl ((decide_eq_false h10))) (fun w hm => ev_bit ht rfl rfl rfl rfl) ?_
          intro a ht
          refine wph_one (i := 22) (by kernel_rfl) (wph_step rfl ?_)
          refine wpl_yes rfl ht rfl ((decide_eq_false h10)) ?_
          obtain ⟨t14, et14, H⟩ := bind_get H
          have hcall := spec_l03Clique.calls q6 _ _ x xs0_6 (bitop .and .i64 t11 t13) (w64 (t12 - 2)) _ ((fun (hq : Ms _ _ _ ([] ++ [.vec As0_1 cs0_2 25 1 ms0_3 vss0_5, .blk b1 28 (Col.cells x)]) _ _) => hq.lend (φp := []) (allRO_nil)) (hm.pick (own' := [] ++ [.vec As0_1 cs0_2 25 1 ms0_3 vss0_5, .blk b1 28 (Col.cells x)]) [0, 1] rfl (by decide))) et14
          refine wpl_call _ rfl rfl ht rfl rfl rfl rfl can_46 hcall ?_
          clear hcall
          rintro _ w ⟨rfl, hpost⟩ a ht
          replace hm := (hm.pick (own' := [] ++ [.vec As0_1 cs0_2 25 1 ms0_3 vss0_5, .blk b1 28 (Col.cells x)]) [0, 1] rfl (by decide)).backL hpost
          clear hpost
          have hS : Ms X (fps []) w0 [.vec As0_1 cs0_2 25 1 ms0_3 vss0_5, .blk b1 28 (Col.cells x)] [IntsAt A c m sizes, IntsAt A2 c2 m2 colours, IntsAt A3 c3 m3 sets, AllInts vss0_5 ls0_4] w := (hm.pick [0, 1] rfl (by decide)).pickφ [0, 1, 2, 3] rfl
          refine wpList_nil (qn ⟨hS, ?_⟩)
          refine wph_take (i := 23) rfl (by kernel_rfl) (by kernel_rfl) (by kernel_rfl) (fun _ _ _ h => h) rfl ht hS (wanted_plain rfl) (fun w hm => ev_pick_no ht rfl rfl (decide_eq_false h10) rfl) ?_
          intro a ht
          refine wph_done (by kernel_rfl) ?_
          refine then_normal ?_
          by_cases h15 : t14 = true
          · replace H := ite_yes h15 H
            refine wpc_yes ht rfl h15 ?_
            refine wp_exit ?_
            refine then_exit ?_
            refine blk_hit ?_
            refine then_normal ?_
            refine wpr ?_
            refine wpl rfl rfl ht (ev_move ht rfl rfl) ?_
            intro a ht
            refine wpl rfl rfl ht (ev_arith ht rfl rfl rfl rfl) ?_
            intro a ht
            refine wpl rfl rfl ht (ev_assign ht rfl rfl) ?_
            intro a ht
            refine wpList_nil ?_
            exact then_normal ⟨q6, by omega, ls0_4, (w64 (xs0_6 + 1)), As0_1, cs0_2, ms0_3, vss0_5, H, by omega, ht.sub ⟨rfl, rfl, rfl, rfl, rfl, rfl, rfl, rfl, rfl, trivial⟩, (hm.pick [0, 1] rfl (by decide)).pickφ [0, 1, 2, 3] rfl⟩
          · replace H := ite_no h15 H
            refine wpc_no ht rfl (Bool.eq_false_iff.mpr h15) ?_
            refine wp_skip ?_
            refine then_normal ?_
            refine wp_seq ?_
            refine wpr ?_
            refine wpl rfl rfl ht (ev_move ht rfl rfl) ?_
            intro a ht
            obtain ⟨t16, et16, H⟩ := bind_get H
            have hcall := spec_l01Own.calls _ _ A3 c3 m3 sets _ ((fun (hq : Ms _ _ _ ([] ++ [.vec As0_1 cs0_2 25 1 ms0_3 vss0_5, .blk b1 28 (Col.cells x)]) _ _) => hq.lend (φp := [IntsAt A3 c3 m3 sets]) (allRO_cons (hq.lendFact 2 rfl) (allRO_nil))) (hm.pick (own' := [] ++ [.vec As0_1 cs0_2 25 1 ms0_3 vss0_5, .blk b1 28 (Col.cells x)]) [0, 1] rfl (by decide))) et16
            refine wpl_call _ rfl rfl ht rfl rfl rfl rfl can_77 hcall ?_
            clear hcall
            rintro _ w ⟨A17, c18, m19, rfl, hpost⟩ a ht
            replace hm := (hm.pick (own' := [] ++ [.vec As0_1 cs0_2 25 1 ms0_3 vss0_5, .blk b1 28 (Col.cells x)]) [0, 1] rfl (by decide)).backL hpost
            clear hpost
            refine wpl rfl rfl ht (ev_assign ht rfl rfl) ?_
            intro a ht
            refine wpList_nil ?_
            refine then_normal ?_
            refine wp_seq ?_
            refine wpr ?_
            refine wpl rfl rfl ht (ev_move ht rfl rfl) ?_
            intro a ht
            refine wpl rfl rfl ht (ev_move ht rfl rfl) ?_
            intro a ht
            refine wpl rfl rfl ht (ev_move ht rfl rfl) ?_
            intro a ht
            refine wpl rfl rfl ht (ev_move ht rfl rfl) ?_
            intro a ht
            obtain ⟨t20, et20, H⟩ := bind_get H
            refine wpl rfl rfl ht (ev_index_ints ht rfl rfl rfl so_25 (hm.vec_row 0 rfl) et20) ?_
            intro a ht
            refine wpl rfl rfl ht (ev_load ht rfl rfl sc_2 (RowAt.cell (hm.vec_row 0 rfl) (ints_get et20) rfl)) ?_
            intro a ht
            refine wpl rfl rfl ht (ev_move ht rfl rfl) ?_
            intro a ht
            refine wpl rfl rfl ht (ev_convert ht rfl rfl und_2 und_73) ?_
            intro a ht
            refine wpl rfl rfl ht (ev_shl ht rfl rfl rfl (wrapU_nonneg _ _ rfl)) ?_
            intro a ht
            refine wpl rfl rfl ht (ev_bit ht rfl rfl rfl rfl) ?_
            intro a ht
            obtain ⟨t21, et21, H⟩ := bind_get H
            refine wpl rfl rfl ht (ev_index_ints ht rfl rfl rfl so_25 (hm.vec_row 0 rfl) et21) ?_
            intro a ht
            refine wpl_store_int 0 rfl rfl ht hm rfl rfl rfl sz1_2 rfl et21 ?_
            intro a ht w hm
            refine wpList_nil ?_
            refine then_normal ?_
            refine wph_begin (fun w => Ms X (fps []) w0 [.blk b1 28 (Col.cells x)] [IntsAt A c m sizes, IntsAt A2 c2 m2 colours, IntsAt A3 c3 m3 sets, AllInts vss0_5 ls0_4] w) mixed ?_
            replace hm := hm.drew
            have hS : Ms X (fps []) w0 [.blk b1 28 (Col.cells x)] [IntsAt A c m sizes, IntsAt A2 c2 m2 colours, IntsAt A3 c3 m3 sets, AllInts vss0_5 ls0_4] w.drew := (hm.pick [2] rfl (by decide)).pickφ [0, 1, 2, 3] rfl
            generalize w.drew = w at hm hS ⊢
            refine wph_take (i := 0) rfl (by kernel_rfl) (by kernel_rfl) (by kernel_rfl) (fun _ _ _ h => h) rfl ht hS (wanted_plain rfl) (fun w hm => ev_move ht rfl rfl) ?_
            intro a ht
            refine wph_take (i := 1) rfl (by kernel_rfl) (by kernel_rfl) (by kernel_rfl) (fun _ _ _ h => h) rfl ht hS (wanted_plain rfl) (fun w hm => ev_load_agg ht rfl rfl (ag_28.trans (by first | rw [Col.length_cells] | rfl)) (hm.blk_all 0 rfl)) ?_
            intro a ht
            refine wph_take (i := 2) rfl (by kernel_rfl) (by kernel_rfl) (by kernel_rfl) (fun _ _ _ h => h) rfl ht hS (wanted_plain rfl) (fun w hm => ev_move ht rfl rfl) ?_
            intro a ht
            refine wph_take (i := 3) rfl (by kernel_rfl) (by kernel_rfl) (by kernel_rfl) (fun _ _ _ h => h) rfl ht hS (wanted_plain rfl) (fun w hm => ev_move ht rfl rfl) ?_
            intro a ht
            refine wph_take (i := 5) rfl (by kernel_rfl) (by kernel_rfl) (by kernel_rfl) (fun _ _ _ h => h) rfl ht hS (wanted_plain rfl) (fun w hm => ev_move ht rfl rfl) ?_
            intro a ht
            refine wph_take (i := 8) rfl (by kernel_rfl) (by kernel_rfl) (by kernel_rfl) (fun _ _ _ h => h) rfl ht hS (wanted_plain rfl) (fun w hm => ev_move ht rfl rfl) ?_
            intro a ht
            refine wph_take (i := 9) rfl (by kernel_rfl) (by kernel_rfl) (by kernel_rfl) (fun _ _ _ h => h) rfl ht hS (wanted_plain rfl) (fun w hm => ev_move ht rfl rfl) ?_
            intro a ht
            refine wph_take (i := 10) rfl (by kernel_rfl) (by kernel_rfl) (by kernel_rfl) (fun _ _ _ h => h) rfl ht hS (wanted_plain rfl) (fun w hm => ev_move ht rfl rfl) ?_
            intro a ht
            refine wph_three (i := 4) (j := 6) (l := 11) (by kernel_rfl) ?_ ?_ ?_ 
            · refine wph_step rfl ?_
              obtain ⟨t22, et22, H⟩ := bind_get H
              have hcall := spec_l01Own.calls _ _ A2 c2 m2 colours _ ((fun (hq : Ms _ _ _ ([] ++ [.vec A17 c18 2 1 m19 (ints (t16.set xs0_6.toNat (bitop .or .i64 t20 (shlI .i64 1 (wu64 (colours.length : Int)))))), .vec As0_1 cs0_2 25 1 ms0_3 vss0_5, .blk b1 28 (Col.cells x)]) _ _) => hq.lend (φp := [IntsAt A2 c2 m2 colours]) (allRO_cons (hq.lendFact 1 rfl) (allRO_nil))) (hm.pick (own' := [] ++ [.vec A17 c18 2 1 m19 (ints (t16.set xs0_6.toNat (bitop .or .i64 t20 (shlI .i64 1 (wu64 (colours.length : Int)))))), .vec As0_1 cs0_2 25 1 ms0_3 vss0_5, .blk b1 28 (Col.cells x)]) [0, 1, 2] rfl (by decide))) et22
              refine wpl_call _ rfl rfl ht rfl rfl rfl rfl can_77 hcall ?_
              clear hcall
              rintro _ w ⟨A23, c24, m25, rfl, hpost⟩ a ht
              replace hm := (hm.pick (own' := [] ++ [.vec A17 c18 2 1 m19 (ints (t16.set xs0_6.toNat (bitop .or .i64 t20 (shlI .i64 1 (wu64 (colours.length : Int)))))), .vec As0_1 cs0_2 25 1 ms0_3 vss0_5, .blk b1 28 (Col.cells x)]) [0, 1, 2] rfl (by decide)).backL hpost
              clear hpost
              have hS : Ms X (fps []) w0 [.blk b1 28 (Col.cells x)] [IntsAt A c m sizes, IntsAt A2 c2 m2 colours, IntsAt A3 c3 m3 sets, AllInts vss0_5 ls0_4] w := (hm.pick [3] rfl (by decide)).pickφ [0, 1, 2, 3] rfl
              refine wpList_nil (qn ⟨hS, ?_⟩)
              refine wph_two (i := 6) (j := 11) (by kernel_rfl) ?_ ?_ 
              · refine wph_step rfl ?_
                refine wpl_build_ints (l := [xs0_6]) rfl rfl ht hm rfl und_25 zo_2 sz1_2 (by decide) rfl rfl rfl ?_
                intro A26 a ht w hm
                have hS : Ms X (fps []) w0 [.blk b1 28 (Col.cells x)] [IntsAt A c m sizes, IntsAt A2 c2 m2 colours, IntsAt A3 c3 m3 sets, AllInts vss0_5 ls0_4] w := (hm.pick [4] rfl (by decide)).pickφ [0, 1, 2, 3] rfl
                refine wpList_nil (qn ⟨hS, ?_⟩)
                refine wph_two (i := 7) (j := 11) (by kernel_rfl) ?_ ?_ 
                · refine wph_step rfl ?_
                  obtain ⟨l30, el30, H⟩ := bind_get H
                  refine wpl_push (r := l30) 1 0 rfl rfl ht hm rfl ap_25 rfl rfl rfl rfl el30 ?_
                  intro A27 c28 m29 a ht w hm
                  have hS : Ms X (fps []) w0 [.blk b1 28 (Col.cells x)] [IntsAt A c m sizes, IntsAt A2 c2 m2 colours, IntsAt A3 c3 m3 sets, AllInts vss0_5 ls0_4] w := (hm.pick [4] rfl (by decide)).pickφ [0, 1, 2, 3] rfl
                  refine wpList_nil (qn ⟨hS, ?_⟩)
                  refine wph_one (i := 11) (by kernel_rfl) (wph_step rfl ?_)
                  refine wpl rfl rfl ht (ev_len_rows ht rfl rfl und_38 (hm.rowsOf 3 3 rfl rfl)) ?_
                  intro a ht
                  have hS : Ms X (fps []) w0 [.blk b1 28 (Col.cells x)] [IntsAt A c m sizes, IntsAt A2 c2 m2 colours, IntsAt A3 c3 m3 sets, AllInts vss0_5 ls0_4] w := (hm.pick [4] rfl (by decide)).pickφ [0, 1, 2, 3] rfl
                  refine wpList_nil (qn ⟨hS, ?_⟩)
                  refine wph_take (i := 12) rfl (by kernel_rfl) (by kernel_rfl) (by kernel_rfl) (fun _ _ _ h => h) rfl ht hS (wanted_plain rfl) (fun w hm => ev_arith ht rfl rfl rfl rfl) ?_
                  intro a ht
                  refine wph_one (i := 13) (by kernel_rfl) (wph_step rfl ?_)
                  replace hm : Ms _ _ _ _ (IntsAt A27 c28 m29 l30 :: _) w := hm.shutVec 1 rfl
                  replace hm : Ms _ _ _ _ (IntsAt A17 c18 m19 (t16.set xs0_6.toNat (bitop .or .i64 t20 (shlI .i64 1 (wu64 (colours.length : Int))))) :: _) w := hm.shutVec 1 rfl
                  obtain ⟨t31, et31, H⟩ := bind_get H
                  have hcall := ih q6 (by omega) _ _ A c m A27 c28 m29 A17 c18 m19 x sizes l30 (t16.set xs0_6.toNat (bitop .or .i64 t20 (shlI .i64 1 (wu64 (colours.length : Int))))) (w64 (most - (ls0_4.length : Int))) _ ((hm.pick (own' := [] ++ [.vec A26 1 2 1 1 (ints ([xs0_6])), .vec As0_1 cs0_2 25 1 ms0_3 vss0_5, .blk b1 28 (Col.cells x)]) [0, 1, 2] rfl (by decide)).give (passed := []) (rest := [.vec A26 1 2 1 1 (ints ([xs0_6])), .vec As0_1 cs0_2 25 1 ms0_3 vss0_5, .blk b1 28 (Col.cells x)]) (φp := [IntsAt A c m sizes, IntsAt A27 c28 m29 l30, IntsAt A17 c18 m19 (t16.set xs0_6.toNat (bitop .or .i64 t20 (shlI .i64 1 (wu64 (colours.length : Int)))))]) [2, 1, 0] rfl) et31
                  refine wpl_call _ rfl rfl ht rfl rfl rfl rfl can_57 hcall ?_
                  clear hcall
                  rintro _ w ⟨A32, c33, m34, vs35, rfl, hpost⟩ a ht
                  replace hm := (hm.pick (own' := [] ++ [.vec A26 1 2 1 1 (ints ([xs0_6])), .vec As0_1 cs0_2 25 1 ms0_3 vss0_5, .blk b1 28 (Col.cells x)]) [0, 1, 2] rfl (by decide)).back hpost
                  clear hpost
                  have hS : Ms X (fps []) w0 [.blk b1 28 (Col.cells x)] [IntsAt A c m sizes, IntsAt A2 c2 m2 colours, IntsAt A3 c3 m3 sets, AllInts vss0_5 ls0_4] w := (hm.pick [3] rfl (by decide)).pickφ [3, 4, 5, 6] rfl
                  refine wpList_nil (qn ⟨hS, ?_⟩)
                  refine wph_one (i := 14) (by kernel_rfl) (wph_step rfl ?_)
                  obtain ⟨l39, el39, H⟩ := bind_get H
                  replace hm : Ms _ _ _ _ (AllInts (vss0_5 ++ vs35) l39 :: _) w := hm.addφ (allInts_append el39 (hm.ro 6 rfl) (hm.ro 0 rfl))
                  refine wpl_concat_rows (r := l39) 2 0 7 1 rfl rfl ht hm rfl ap_38 rfl rfl rfl rfl rfl rfl el39 ?_
                  intro A36 c37 m38 a ht w hm
                  have hS : Ms X (fps []) w0 [.blk b1 28 (Col.cells x)] [IntsAt A c m sizes, IntsAt A2 c2 m2 colours, IntsAt A3 c3 m3 sets, AllInts vss0_5 ls0_4] w := (hm.pick [3] rfl (by decide)).pickφ [4, 5, 6, 7] rfl
                  refine wpList_nil (qn ⟨hS, ?_⟩)
                  refine wph_take (i := 15) rfl (by kernel_rfl) (by kernel_rfl) (by kernel_rfl) (fun _ _ _ h => h) rfl ht hS (wanted_plain rfl) (fun w hm => ev_assign ht rfl rfl) ?_
                  intro a ht
                  refine wph_done (by kernel_rfl) ?_
                  refine blk_normal ?_
                  refine then_normal ?_
                  refine wpr ?_
                  refine wpl rfl rfl ht (ev_move ht rfl rfl) ?_
                  intro a ht
                  refine wpl rfl rfl ht (ev_arith ht rfl rfl rfl rfl) ?_
                  intro a ht
                  refine wpl rfl rfl ht (ev_assign ht rfl rfl) ?_
                  intro a ht
                  refine wpList_nil ?_
                  exact then_normal ⟨q6, by omega, l39, (w64 (xs0_6 + 1)), A36, c37, m38, (vss0_5 ++ vs35), H, by omega, ht.sub ⟨rfl, rfl, rfl, rfl, rfl, rfl, rfl, rfl, rfl, trivial⟩, (hm.pick [2, 3] rfl (by decide)).pickφ [4, 5, 6, 0] rfl⟩
                · refine wph_step rfl ?_
                  refine wpl rfl rfl ht (ev_len_rows ht rfl rfl und_38 (hm.rowsOf 3 3 rfl rfl)) ?_
                  intro a ht
                  have hS : Ms X (fps []) w0 [.blk b1 28 (Col.cells x)] [IntsAt A c m sizes, IntsAt A2 c2 m2 colours, IntsAt A3 c3 m3 sets, AllInts vss0_5 ls0_4] w := (hm.pick [4] rfl (by decide)).pickφ [0, 1, 2, 3] rfl
                  refine wpList_nil (qn ⟨hS, ?_⟩)
                  refine wph_take (i := 12) rfl (by kernel_rfl) (by kernel_rfl) (by kernel_rfl) (fun _ _ _ h => h) rfl ht hS (wanted_plain rfl) (fun w hm => ev_arith ht rfl rfl rfl rfl) ?_
                  intro a ht
                  refine wph_one (i := 7) (by kernel_rfl) (wph_step rfl ?_)
                  obtain ⟨l30, el30, H⟩ := bind_get H
                  refine wpl_push (r := l30) 1 0 rfl rfl ht hm rfl ap_25 rfl rfl rfl rfl el30 ?_
                  intro A27 c28 m29 a ht w hm
                  have hS : Ms X (fps []) w0 [.blk b1 28 (Col.cells x)] [IntsAt A c m sizes, IntsAt A2 c2 m2 colours, IntsAt A3 c3 m3 sets, AllInts vss0_5 ls0_4] w := (hm.pick [4] rfl (by decide)).pickφ [0, 1, 2, 3] rfl
                  refine wpList_nil (qn ⟨hS, ?_⟩)
                  refine wph_one (i := 13) (by kernel_rfl) (wph_step rfl ?_)
                  replace hm : Ms _ _ _ _ (IntsAt A27 c28 m29 l30 :: _) w := hm.shutVec 1 rfl
                  replace hm : Ms _ _ _ _ (IntsAt A17 c18 m19 (t16.set xs0_6.toNat (bitop .or .i64 t20 (shlI .i64 1 (wu64 (colours.length : Int))))) :: _) w := hm.shutVec 1 rfl
                  obtain ⟨t31, et31, H⟩ := bind_get H
                  have hcall := ih q6 (by omega) _ _ A c m A27 c28 m29 A17 c18 m19 x sizes l30 (t16.set xs0_6.toNat (bitop .or .i64 t20 (shlI .i64 1 (wu64 (colours.length : Int))))) (w64 (most - (ls0_4.length : Int))) _ ((hm.pick (own' := [] ++ [.vec A26 1 2 1 1 (ints ([xs0_6])), .vec As0_1 cs0_2 25 1 ms0_3 vss0_5, .blk b1 28 (Col.cells x)]) [0, 1, 2] rfl (by decide)).give (passed := []) (rest := [.vec A26 1 2 1 1 (ints ([xs0_6])), .vec As0_1 cs0_2 25 1 ms0_3 vss0_5, .blk b1 28 (Col.cells x)]) (φp := [IntsAt A c m sizes, IntsAt A27 c28 m29 l30, IntsAt A17 c18 m19 (t16.set xs0_6.toNat (bitop .or .i64 t20 (shlI .i64 1 (wu64 (colours.length : Int)))))]) [2, 1, 0] rfl) et31
                  refine wpl_call _ rfl rfl ht rfl rfl rfl rfl can_57 hcall ?_
                  clear hcall
                  rintro _ w ⟨A32, c33, m34, vs35, rfl, hpost⟩ a ht
                  replace hm := (hm.pick (own' := [] ++ [.vec A26 1 2 1 1 (ints ([xs0_6])), .vec As0_1 cs0_2 25 1 ms0_3 vss0_5, .blk b1 28 (Col.cells x)]) [0, 1, 2] rfl (by decide)).back hpost
                  clear hpost
                  have hS : Ms X (fps []) w0 [.blk b1 28 (Col.cells x)] [IntsAt A c m sizes, IntsAt A2 c2 m2 colours, IntsAt A3 c3 m3 sets, AllInts vss0_5 ls0_4] w := (hm.pick [3] rfl (by decide)).pickφ [3, 4, 5, 6] rfl
                  refine wpList_nil (qn ⟨hS, ?_⟩)
                  refine wph_one (i := 14) (by kernel_rfl) (wph_step rfl ?_)
                  obtain ⟨l39, el39, H⟩ := bind_get H
                  replace hm : Ms _ _ _ _ (AllInts (vss0_5 ++ vs35) l39 :: _) w := hm.addφ (allInts_append el39 (hm.ro 6 rfl) (hm.ro 0 rfl))
                  refine wpl_concat_rows (r := l39) 2 0 7 1 rfl rfl ht hm rfl ap_38 rfl rfl rfl rfl rfl rfl el39 ?_
                  intro A36 c37 m38 a ht w hm
                  have hS : Ms X (fps []) w0 [.blk b1 28 (Col.cells x)] [IntsAt A c m sizes, IntsAt A2 c2 m2 colours, IntsAt A3 c3 m3 sets, AllInts vss0_5 ls0_4] w := (hm.pick [3] rfl (by decide)).pickφ [4, 5, 6, 7] rfl
                  refine wpList_nil (qn ⟨hS, ?_⟩)
                  refine wph_take (i := 15) rfl (by kernel_rfl) (by kernel_rfl) (by kernel_rfl) (fun _ _ _ h => h) rfl ht hS (wanted_plain rfl) (fun w hm => ev_assign ht rfl rfl) ?_
                  intro a ht
                  refine wph_done (by kernel_rfl) ?_
                  refine blk_normal ?_
                  refine then_normal ?_
                  refine wpr ?_
                  refine wpl rfl rfl ht (ev_move ht rfl rfl) ?_
                  intro a ht
                  refine wpl rfl rfl ht (ev_arith ht rfl rfl rfl rfl) ?_
                  intro a ht
                  refine wpl rfl rfl ht (ev_assign ht rfl rfl) ?_
                  intro a ht
                  refine wpList_nil ?_
                  exact then_normal ⟨q6, by omega, l39, (w64 (xs0_6 + 1)), A36, c37, m38, (vss0_5 ++ vs35), H, by omega, ht.sub ⟨rfl, rfl, rfl, rfl, rfl, rfl, rfl, rfl, rfl, trivial⟩, (hm.pick [2, 3] rfl (by decide)).pickφ [4, 5, 6, 0] rfl⟩
              · refine wph_step rfl ?_
                refine wpl rfl rfl ht (ev_len_rows ht rfl rfl und_38 (hm.rowsOf 2 3 rfl rfl)) ?_
                intro a ht
                have hS : Ms X (fps []) w0 [.blk b1 28 (Col.cells x)] [IntsAt A c m sizes, IntsAt A2 c2 m2 colours, IntsAt A3 c3 m3 sets, AllInts vss0_5 ls0_4] w := (hm.pick [3] rfl (by decide)).pickφ [0, 1, 2, 3] rfl
                refine wpList_nil (qn ⟨hS, ?_⟩)
                refine wph_take (i := 12) rfl (by kernel_rfl) (by kernel_rfl) (by kernel_rfl) (fun _ _ _ h => h) rfl ht hS (wanted_plain rfl) (fun w hm => ev_arith ht rfl rfl rfl rfl) ?_
                intro a ht
                refine wph_one (i := 6) (by kernel_rfl) (wph_step rfl ?_)
                refine wpl_build_ints (l := [xs0_6]) rfl rfl ht hm rfl und_25 zo_2 sz1_2 (by decide) rfl rfl rfl ?_
                intro A26 a ht w hm
                have hS : Ms X (fps []) w0 [.blk b1 28 (Col.cells x)] [IntsAt A c m sizes, IntsAt A2 c2 m2 colours, IntsAt A3 c3 m3 sets, AllInts vss0_5 ls0_4] w := (hm.pick [4] rfl (by decide)).pickφ [0, 1, 2, 3] rfl
                refine wpList_nil (qn ⟨hS, ?_⟩)
                refine wph_one (i := 7) (by kernel_rfl) (wph_step rfl ?_)
                obtain ⟨l30, el30, H⟩ := bind_get H
                refine wpl_push (r := l30) 1 0 rfl rfl ht hm rfl ap_25 rfl rfl rfl rfl el30 ?_
                intro A27 c28 m29 a ht w hm
                have hS : Ms X (fps []) w0 [.blk b1 28 (Col.cells x)] [IntsAt A c m sizes, IntsAt A2 c2 m2 colours, IntsAt A3 c3 m3 sets, AllInts vss0_5 ls0_4] w := (hm.pick [4] rfl (by decide)).pickφ [0, 1, 2, 3] rfl
                refine wpList_nil (qn ⟨hS, ?_⟩)
                refine wph_one (i := 13) (by kernel_rfl) (wph_step rfl ?_)
                replace hm : Ms _ _ _ _ (IntsAt A27 c28 m29 l30 :: _) w := hm.shutVec 1 rfl
                replace hm : Ms _ _ _ _ (IntsAt A17 c18 m19 (t16.set xs0_6.toNat (bitop .or .i64 t20 (shlI .i64 1 (wu64 (colours.length : Int))))) :: _) w := hm.shutVec 1 rfl
                obtain ⟨t31, et31, H⟩ := bind_get H
                have hcall := ih q6 (by omega) _ _ A c m A27 c28 m29 A17 c18 m19 x sizes l30 (t16.set xs0_6.toNat (bitop .or .i64 t20 (shlI .i64 1 (wu64 (colours.length : Int))))) (w64 (most - (ls0_4.length : Int))) _ ((hm.pick (own' := [] ++ [.vec A26 1 2 1 1 (ints ([xs0_6])), .vec As0_1 cs0_2 25 1 ms0_3 vss0_5, .blk b1 28 (Col.cells x)]) [0, 1, 2] rfl (by decide)).give (passed := []) (rest := [.vec A26 1 2 1 1 (ints ([xs0_6])), .vec As0_1 cs0_2 25 1 ms0_3 vss0_5, .blk b1 28 (Col.cells x)]) (φp := [IntsAt A c m sizes, IntsAt A27 c28 m29 l30, IntsAt A17 c18 m19 (t16.set xs0_6.toNat (bitop .or .i64 t20 (shlI .i64 1 (wu64 (colours.length : Int)))))]) [2, 1, 0] rfl) et31
                refine wpl_call _ rfl rfl ht rfl rfl rfl rfl can_57 hcall ?_
                clear hcall
                rintro _ w ⟨A32, c33, m34, vs35, rfl, hpost⟩ a ht
                replace hm := (hm.pick (own' := [] ++ [.vec A26 1 2 1 1 (ints ([xs0_6])), .vec As0_1 cs0_2 25 1 ms0_3 vss0_5, .blk b1 28 (Col.cells x)]) [0, 1, 2] rfl (by decide)).back hpost
                clear hpost
                have hS : Ms X (fps []) w0 [.blk b1 28 (Col.cells x)] [IntsAt A c m sizes, IntsAt A2 c2 m2 colours, IntsAt A3 c3 m3 sets, AllInts vss0_5 ls0_4] w := (hm.pick [3] rfl (by decide)).pickφ [3, 4, 5, 6] rfl
                refine wpList_nil (qn ⟨hS, ?_⟩)
                refine wph_one (i := 14) (by kernel_rfl) (wph_step rfl ?_)
                obtain ⟨l39, el39, H⟩ := bind_get H
                replace hm : Ms _ _ _ _ (AllInts (vss0_5 ++ vs35) l39 :: _) w := hm.addφ (allInts_append el39 (hm.ro 6 rfl) (hm.ro 0 rfl))
                refine wpl_concat_rows (r := l39) 2 0 7 1 rfl rfl ht hm rfl ap_38 rfl rfl rfl rfl rfl rfl el39 ?_
                intro A36 c37 m38 a ht w hm
                have hS : Ms X (fps []) w0 [.blk b1 28 (Col.cells x)] [IntsAt A c m sizes, IntsAt A2 c2 m2 colours, IntsAt A3 c3 m3 sets, AllInts vss0_5 ls0_4] w := (hm.pick [3] rfl (by decide)).pickφ [4, 5, 6, 7] rfl
                refine wpList_nil (qn ⟨hS, ?_⟩)
                refine wph_take (i := 15) rfl (by kernel_rfl) (by kernel_rfl) (by kernel_rfl) (fun _ _ _ h => h) rfl ht hS (wanted_plain rfl) (fun w hm => ev_assign ht rfl rfl) ?_
                intro a ht
                refine wph_done (by kernel_rfl) ?_
                refine blk_normal ?_
                refine then_normal ?_
                refine wpr ?_
                refine wpl rfl rfl ht (ev_move ht rfl rfl) ?_
                intro a ht
                refine wpl rfl rfl ht (ev_arith ht rfl rfl rfl rfl) ?_
                intro a ht
                refine wpl rfl rfl ht (ev_assign ht rfl rfl) ?_
                intro a ht
                refine wpList_nil ?_
                exact then_normal ⟨q6, by omega, l39, (w64 (xs0_6 + 1)), A36, c37, m38, (vss0_5 ++ vs35), H, by omega, ht.sub ⟨rfl, rfl, rfl, rfl, rfl, rfl, rfl, rfl, rfl, trivial⟩, (hm.pick [2, 3] rfl (by decide)).pickφ [4, 5, 6, 0] rfl⟩
            · refine wph_step rfl ?_
              refine wpl_build_ints (l := [xs0_6]) rfl rfl ht hm rfl und_25 zo_2 sz1_2 (by decide) rfl rfl rfl ?_
              intro A22 a ht w hm
              have hS : Ms X (fps []) w0 [.blk b1 28 (Col.cells x)] [IntsAt A c m sizes, IntsAt A2 c2 m2 colours, IntsAt A3 c3 m3 sets, AllInts vss0_5 ls0_4] w := (hm.pick [3] rfl (by decide)).pickφ [0, 1, 2, 3] rfl
              refine wpList_nil (qn ⟨hS, ?_⟩)
              refine wph_two (i := 4) (j := 11) (by kernel_rfl) ?_ ?_ 
              · refine wph_step rfl ?_
                obtain ⟨t23, et23, H⟩ := bind_get H
                have hcall := spec_l01Own.calls _ _ A2 c2 m2 colours _ ((fun (hq : Ms _ _ _ ([] ++ [.vec A22 1 2 1 1 (ints ([xs0_6])), .vec A17 c18 2 1 m19 (ints (t16.set xs0_6.toNat (bitop .or .i64 t20 (shlI .i64 1 (wu64 (colours.length : Int)))))), .vec As0_1 cs0_2 25 1 ms0_3 vss0_5, .blk b1 28 (Col.cells x)]) _ _) => hq.lend (φp := [IntsAt A2 c2 m2 colours]) (allRO_cons (hq.lendFact 1 rfl) (allRO_nil))) (hm.pick (own' := [] ++ [.vec A22 1 2 1 1 (ints ([xs0_6])), .vec A17 c18 2 1 m19 (ints (t16.set xs0_6.toNat (bitop .or .i64 t20 (shlI .i64 1 (wu64 (colours.length : Int)))))), .vec As0_1 cs0_2 25 1 ms0_3 vss0_5, .blk b1 28 (Col.cells x)]) [0, 1, 2, 3] rfl (by decide))) et23
                refine wpl_call _ rfl rfl ht rfl rfl rfl rfl can_77 hcall ?_
                clear hcall
                rintro _ w ⟨A24, c25, m26, rfl, hpost⟩ a ht
                replace hm := (hm.pick (own' := [] ++ [.vec A22 1 2 1 1 (ints ([xs0_6])), .vec A17 c18 2 1 m19 (ints (t16.set xs0_6.toNat (bitop .or .i64 t20 (shlI .i64 1 (wu64 (colours.length : Int)))))), .vec As0_1 cs0_2 25 1 ms0_3 vss0_5, .blk b1 28 (Col.cells x)]) [0, 1, 2, 3] rfl (by decide)).backL hpost
                clear hpost
                have hS : Ms X (fps []) w0 [.blk b1 28 (Col.cells x)] [IntsAt A c m sizes, IntsAt A2 c2 m2 colours, IntsAt A3 c3 m3 sets, AllInts vss0_5 ls0_4] w := (hm.pick [4] rfl (by decide)).pickφ [0, 1, 2, 3] rfl
                refine wpList_nil (qn ⟨hS, ?_⟩)
                refine wph_two (i := 7) (j := 11) (by kernel_rfl) ?_ ?_ 
                · refine wph_step rfl ?_
                  obtain ⟨l30, el30, H⟩ := bind_get H
                  refine wpl_push (r := l30) 0 1 rfl rfl ht hm rfl ap_25 rfl rfl rfl rfl el30 ?_
                  intro A27 c28 m29 a ht w hm
                  have hS : Ms X (fps []) w0 [.blk b1 28 (Col.cells x)] [IntsAt A c m sizes, IntsAt A2 c2 m2 colours, IntsAt A3 c3 m3 sets, AllInts vss0_5 ls0_4] w := (hm.pick [4] rfl (by decide)).pickφ [0, 1, 2, 3] rfl
                  refine wpList_nil (qn ⟨hS, ?_⟩)
                  refine wph_one (i := 11) (by kernel_rfl) (wph_step rfl ?_)
                  refine wpl rfl rfl ht (ev_len_rows ht rfl rfl und_38 (hm.rowsOf 3 3 rfl rfl)) ?_
                  intro a ht
                  have hS : Ms X (fps []) w0 [.blk b1 28 (Col.cells x)] [IntsAt A c m sizes, IntsAt A2 c2 m2 colours, IntsAt A3 c3 m3 sets, AllInts vss0_5 ls0_4] w := (hm.pick [4] rfl (by decide)).pickφ [0, 1, 2, 3] rfl
                  refine wpList_nil (qn ⟨hS, ?_⟩)
                  refine wph_take (i := 12) rfl (by kernel_rfl) (by kernel_rfl) (by kernel_rfl) (fun _ _ _ h => h) rfl ht hS (wanted_plain rfl) (fun w hm => ev_arith ht rfl rfl rfl rfl) ?_
                  intro a ht
                  refine wph_one (i := 13) (by kernel_rfl) (wph_step rfl ?_)
                  replace hm : Ms _ _ _ _ (IntsAt A27 c28 m29 l30 :: _) w := hm.shutVec 0 rfl
                  replace hm : Ms _ _ _ _ (IntsAt A17 c18 m19 (t16.set xs0_6.toNat (bitop .or .i64 t20 (shlI .i64 1 (wu64 (colours.length : Int))))) :: _) w := hm.shutVec 1 rfl
                  obtain ⟨t31, et31, H⟩ := bind_get H
                  have hcall := ih q6 (by omega) _ _ A c m A27 c28 m29 A17 c18 m19 x sizes l30 (t16.set xs0_6.toNat (bitop .or .i64 t20 (shlI .i64 1 (wu64 (colours.length : Int))))) (w64 (most - (ls0_4.length : Int))) _ ((hm.pick (own' := [] ++ [.vec A22 1 2 1 1 (ints ([xs0_6])), .vec As0_1 cs0_2 25 1 ms0_3 vss0_5, .blk b1 28 (Col.cells x)]) [0, 1, 2] rfl (by decide)).give (passed := []) (rest := [.vec A22 1 2 1 1 (ints ([xs0_6])), .vec As0_1 cs0_2 25 1 ms0_3 vss0_5, .blk b1 28 (Col.cells x)]) (φp := [IntsAt A c m sizes, IntsAt A27 c28 m29 l30, IntsAt A17 c18 m19 (t16.set xs0_6.toNat (bitop .or .i64 t20 (shlI .i64 1 (wu64 (colours.length : Int)))))]) [2, 1, 0] rfl) et31
                  refine wpl_call _ rfl rfl ht rfl rfl rfl rfl can_57 hcall ?_
                  clear hcall
                  rintro _ w ⟨A32, c33, m34, vs35, rfl, hpost⟩ a ht
                  replace hm := (hm.pick (own' := [] ++ [.vec A22 1 2 1 1 (ints ([xs0_6])), .vec As0_1 cs0_2 25 1 ms0_3 vss0_5, .blk b1 28 (Col.cells x)]) [0, 1, 2] rfl (by decide)).back hpost
                  clear hpost
                  have hS : Ms X (fps []) w0 [.blk b1 28 (Col.cells x)] [IntsAt A c m sizes, IntsAt A2 c2 m2 colours, IntsAt A3 c3 m3 sets, AllInts vss0_5 ls0_4] w := (hm.pick [3] rfl (by decide)).pickφ [3, 4, 5, 6] rfl
                  refine wpList_nil (qn ⟨hS, ?_⟩)
                  refine wph_one (i := 14) (by kernel_rfl) (wph_step rfl ?_)
                  obtain ⟨l39, el39, H⟩ := bind_get H
                  replace hm : Ms _ _ _ _ (AllInts (vss0_5 ++ vs35) l39 :: _) w := hm.addφ (allInts_append el39 (hm.ro 6 rfl) (hm.ro 0 rfl))
                  refine wpl_concat_rows (r := l39) 2 0 7 1 rfl rfl ht hm rfl ap_38 rfl rfl rfl rfl rfl rfl el39 ?_
                  intro A36 c37 m38 a ht w hm
                  have hS : Ms X (fps []) w0 [.blk b1 28 (Col.cells x)] [IntsAt A c m sizes, IntsAt A2 c2 m2 colours, IntsAt A3 c3 m3 sets, AllInts vss0_5 ls0_4] w := (hm.pick [3] rfl (by decide)).pickφ [4, 5, 6, 7] rfl
                  refine wpList_nil (qn ⟨hS, ?_⟩)
                  refine wph_take (i := 15) rfl (by kernel_rfl) (by kernel_rfl) (by kernel_rfl) (fun _ _ _ h => h) rfl ht hS (wanted_plain rfl) (fun w hm => ev_assign ht rfl rfl) ?_
                  intro a ht
                  refine wph_done (by kernel_rfl) ?_
                  refine blk_normal ?_
                  refine then_normal ?_
                  refine wpr ?_
                  refine wpl rfl rfl ht (ev_move ht rfl rfl) ?_
                  intro a ht
                  refine wpl rfl rfl ht (ev_arith ht rfl rfl rfl rfl) ?_
                  intro a ht
                  refine wpl rfl rfl ht (ev_assign ht rfl rfl) ?_
                  intro a ht
                  refine wpList_nil ?_
                  exact then_normal ⟨q6, by omega, l39, (w64 (xs0_6 + 1)), A36, c37, m38, (vss0_5 ++ vs35), H, by omega, ht.sub ⟨rfl, rfl, rfl, rfl, rfl, rfl, rfl, rfl, rfl, trivial⟩, (hm.pick [2, 3] rfl (by decide)).pickφ [4, 5, 6, 0] rfl⟩
                · refine wph_step rfl ?_
                  refine wpl rfl rfl ht (ev_len_rows ht rfl rfl und_38 (hm.rowsOf 3 3 rfl rfl)) ?_
                  intro a ht
                  have hS : Ms X (fps []) w0 [.blk b1 28 (Col.cells x)] [IntsAt A c m sizes, IntsAt A2 c2 m2 colours, IntsAt A3 c3 m3 sets, AllInts vss0_5 ls0_4] w := (hm.pick [4] rfl (by decide)).pickφ [0, 1, 2, 3] rfl
                  refine wpList_nil (qn ⟨hS, ?_⟩)
                  refine wph_take (i := 12) rfl (by kernel_rfl) (by kernel_rfl) (by kernel_rfl) (fun _ _ _ h => h) rfl ht hS (wanted_plain rfl) (fun w hm => ev_arith ht rfl rfl rfl rfl) ?_
                  intro a ht
                  refine wph_one (i := 7) (by kernel_rfl) (wph_step rfl ?_)
                  obtain ⟨l30, el30, H⟩ := bind_get H
                  refine wpl_push (r := l30) 0 1 rfl rfl ht hm rfl ap_25 rfl rfl rfl rfl el30 ?_
                  intro A27 c28 m29 a ht w hm
                  have hS : Ms X (fps []) w0 [.blk b1 28 (Col.cells x)] [IntsAt A c m sizes, IntsAt A2 c2 m2 colours, IntsAt A3 c3 m3 sets, AllInts vss0_5 ls0_4] w := (hm.pick [4] rfl (by decide)).pickφ [0, 1, 2, 3] rfl
                  refine wpList_nil (qn ⟨hS, ?_⟩)
                  refine wph_one (i := 13) (by kernel_rfl) (wph_step rfl ?_)
                  replace hm : Ms _ _ _ _ (IntsAt A27 c28 m29 l30 :: _) w := hm.shutVec 0 rfl
                  replace hm : Ms _ _ _ _ (IntsAt A17 c18 m19 (t16.set xs0_6.toNat (bitop .or .i64 t20 (shlI .i64 1 (wu64 (colours.length : Int))))) :: _) w := hm.shutVec 1 rfl
                  obtain ⟨t31, et31, H⟩ := bind_get H
                  have hcall := ih q6 (by omega) _ _ A c m A27 c28 m29 A17 c18 m19 x sizes l30 (t16.set xs0_6.toNat (bitop .or .i64 t20 (shlI .i64 1 (wu64 (colours.length : Int))))) (w64 (most - (ls0_4.length : Int))) _ ((hm.pick (own' := [] ++ [.vec A22 1 2 1 1 (ints ([xs0_6])), .vec As0_1 cs0_2 25 1 ms0_3 vss0_5, .blk b1 28 (Col.cells x)]) [0, 1, 2] rfl (by decide)).give (passed := []) (rest := [.vec A22 1 2 1 1 (ints ([xs0_6])), .vec As0_1 cs0_2 25 1 ms0_3 vss0_5, .blk b1 28 (Col.cells x)]) (φp := [IntsAt A c m sizes, IntsAt A27 c28 m29 l30, IntsAt A17 c18 m19 (t16.set xs0_6.toNat (bitop .or .i64 t20 (shlI .i64 1 (wu64 (colours.length : Int)))))]) [2, 1, 0] rfl) et31
                  refine wpl_call _ rfl rfl ht rfl rfl rfl rfl can_57 hcall ?_
                  clear hcall
                  rintro _ w ⟨A32, c33, m34, vs35, rfl, hpost⟩ a ht
                  replace hm := (hm.pick (own' := [] ++ [.vec A22 1 2 1 1 (ints ([xs0_6])), .vec As0_1 cs0_2 25 1 ms0_3 vss0_5, .blk b1 28 (Col.cells x)]) [0, 1, 2] rfl (by decide)).back hpost
                  clear hpost
                  have hS : Ms X (fps []) w0 [.blk b1 28 (Col.cells x)] [IntsAt A c m sizes, IntsAt A2 c2 m2 colours, IntsAt A3 c3 m3 sets, AllInts vss0_5 ls0_4] w := (hm.pick [3] rfl (by decide)).pickφ [3, 4, 5, 6] rfl
                  refine wpList_nil (qn ⟨hS, ?_⟩)
                  refine wph_one (i := 14) (by kernel_rfl) (wph_step rfl ?_)
                  obtain ⟨l39, el39, H⟩ := bind_get H
                  replace hm : Ms _ _ _ _ (AllInts (vss0_5 ++ vs35) l39 :: _) w := hm.addφ (allInts_append el39 (hm.ro 6 rfl) (hm.ro 0 rfl))
                  refine wpl_concat_rows (r := l39) 2 0 7 1 rfl rfl ht hm rfl ap_38 rfl rfl rfl rfl rfl rfl el39 ?_
                  intro A36 c37 m38 a ht w hm
                  have hS : Ms X (fps []) w0 [.blk b1 28 (Col.cells x)] [IntsAt A c m sizes, IntsAt A2 c2 m2 colours, IntsAt A3 c3 m3 sets, AllInts vss0_5 ls0_4] w := (hm.pick [3] rfl (by decide)).pickφ [4, 5, 6, 7] rfl
                  refine wpList_nil (qn ⟨hS, ?_⟩)
                  refine wph_take (i := 15) rfl (by kernel_rfl) (by kernel_rfl) (by kernel_rfl) (fun _ _ _ h => h) rfl ht hS (wanted_plain rfl) (fun w hm => ev_assign ht rfl rfl) ?_
                  intro a ht
                  refine wph_done (by kernel_rfl) ?_
                  refine blk_normal ?_
                  refine then_normal ?_
                  refine wpr ?_
                  refine wpl rfl rfl ht (ev_move ht rfl rfl) ?_
                  intro a ht
                  refine wpl rfl rfl ht (ev_arith ht rfl rfl rfl rfl) ?_
                  intro a ht
                  refine wpl rfl rfl ht (ev_assign ht rfl rfl) ?_
                  intro a ht
                  refine wpList_nil ?_
                  exact then_normal ⟨q6, by omega, l39, (w64 (xs0_6 + 1)), A36, c37, m38, (vss0_5 ++ vs35), H, by omega, ht.sub ⟨rfl, rfl, rfl, rfl, rfl, rfl, rfl, rfl, rfl, trivial⟩, (hm.pick [2, 3] rfl (by decide)).pickφ [4, 5, 6, 0] rfl⟩
              · refine wph_step rfl ?_
                refine wpl rfl rfl ht (ev_len_rows ht rfl rfl und_38 (hm.rowsOf 2 3 rfl rfl)) ?_
                intro a ht
                have hS : Ms X (fps []) w0 [.blk b1 28 (Col.cells x)] [IntsAt A c m sizes, IntsAt A2 c2 m2 colours, IntsAt A3 c3 m3 sets, AllInts vss0_5 ls0_4] w := (hm.pick [3] rfl (by decide)).pickφ [0, 1, 2, 3] rfl
                refine wpList_nil (qn ⟨hS, ?_⟩)
                refine wph_take (i := 12) rfl (by kernel_rfl) (by kernel_rfl) (by kernel_rfl) (fun _ _ _ h => h) rfl ht hS (wanted_plain rfl) (fun w hm => ev_arith ht rfl rfl rfl rfl) ?_
                intro a ht
                refine wph_one (i := 4) (by kernel_rfl) (wph_step rfl ?_)
                obtain ⟨t23, et23, H⟩ := bind_get H
                have hcall := spec_l01Own.calls _ _ A2 c2 m2 colours _ ((fun (hq : Ms _ _ _ ([] ++ [.vec A22 1 2 1 1 (ints ([xs0_6])), .vec A17 c18 2 1 m19 (ints (t16.set xs0_6.toNat (bitop .or .i64 t20 (shlI .i64 1 (wu64 (colours.length : Int)))))), .vec As0_1 cs0_2 25 1 ms0_3 vss0_5, .blk b1 28 (Col.cells x)]) _ _) => hq.lend (φp := [IntsAt A2 c2 m2 colours]) (allRO_cons (hq.lendFact 1 rfl) (allRO_nil))) (hm.pick (own' := [] ++ [.vec A22 1 2 1 1 (ints ([xs0_6])), .vec A17 c18 2 1 m19 (ints (t16.set xs0_6.toNat (bitop .or .i64 t20 (shlI .i64 1 (wu64 (colours.length : Int)))))), .vec As0_1 cs0_2 25 1 ms0_3 vss0_5, .blk b1 28 (Col.cells x)]) [0, 1, 2, 3] rfl (by decide))) et23
                refine wpl_call _ rfl rfl ht rfl rfl rfl rfl can_77 hcall ?_
                clear hcall
                rintro _ w ⟨A24, c25, m26, rfl, hpost⟩ a ht
                replace hm := (hm.pick (own' := [] ++ [.vec A22 1 2 1 1 (ints ([xs0_6])), .vec A17 c18 2 1 m19 (ints (t16.set xs0_6.toNat (bitop .or .i64 t20 (shlI .i64 1 (wu64 (colours.length : Int)))))), .vec As0_1 cs0_2 25 1 ms0_3 vss0_5, .blk b1 28 (Col.cells x)]) [0, 1, 2, 3] rfl (by decide)).backL hpost
                clear hpost
                have hS : Ms X (fps []) w0 [.blk b1 28 (Col.cells x)] [IntsAt A c m sizes, IntsAt A2 c2 m2 colours, IntsAt A3 c3 m3 sets, AllInts vss0_5 ls0_4] w := (hm.pick [4] rfl (by decide)).pickφ [0, 1, 2, 3] rfl
                refine wpList_nil (qn ⟨hS, ?_⟩)
                refine wph_one (i := 7) (by kernel_rfl) (wph_step rfl ?_)
                obtain ⟨l30, el30, H⟩ := bind_get H
                refine wpl_push (r := l30) 0 1 rfl rfl ht hm rfl ap_25 rfl rfl rfl rfl el30 ?_
                intro A27 c28 m29 a ht w hm
                have hS : Ms X (fps []) w0 [.blk b1 28 (Col.cells x)] [IntsAt A c m sizes, IntsAt A2 c2 m2 colours, IntsAt A3 c3 m3 sets, AllInts vss0_5 ls0_4] w := (hm.pick [4] rfl (by decide)).pickφ [0, 1, 2, 3] rfl
                refine wpList_nil (qn ⟨hS, ?_⟩)
                refine wph_one (i := 13) (by kernel_rfl) (wph_step rfl ?_)
                replace hm : Ms _ _ _ _ (IntsAt A27 c28 m29 l30 :: _) w := hm.shutVec 0 rfl
                replace hm : Ms _ _ _ _ (IntsAt A17 c18 m19 (t16.set xs0_6.toNat (bitop .or .i64 t20 (shlI .i64 1 (wu64 (colours.length : Int))))) :: _) w := hm.shutVec 1 rfl
                obtain ⟨t31, et31, H⟩ := bind_get H
                have hcall := ih q6 (by omega) _ _ A c m A27 c28 m29 A17 c18 m19 x sizes l30 (t16.set xs0_6.toNat (bitop .or .i64 t20 (shlI .i64 1 (wu64 (colours.length : Int))))) (w64 (most - (ls0_4.length : Int))) _ ((hm.pick (own' := [] ++ [.vec A22 1 2 1 1 (ints ([xs0_6])), .vec As0_1 cs0_2 25 1 ms0_3 vss0_5, .blk b1 28 (Col.cells x)]) [0, 1, 2] rfl (by decide)).give (passed := []) (rest := [.vec A22 1 2 1 1 (ints ([xs0_6])), .vec As0_1 cs0_2 25 1 ms0_3 vss0_5, .blk b1 28 (Col.cells x)]) (φp := [IntsAt A c m sizes, IntsAt A27 c28 m29 l30, IntsAt A17 c18 m19 (t16.set xs0_6.toNat (bitop .or .i64 t20 (shlI .i64 1 (wu64 (colours.length : Int)))))]) [2, 1, 0] rfl) et31
                refine wpl_call _ rfl rfl ht rfl rfl rfl rfl can_57 hcall ?_
                clear hcall
                rintro _ w ⟨A32, c33, m34, vs35, rfl, hpost⟩ a ht
                replace hm := (hm.pick (own' := [] ++ [.vec A22 1 2 1 1 (ints ([xs0_6])), .vec As0_1 cs0_2 25 1 ms0_3 vss0_5, .blk b1 28 (Col.cells x)]) [0, 1, 2] rfl (by decide)).back hpost
                clear hpost
                have hS : Ms X (fps []) w0 [.blk b1 28 (Col.cells x)] [IntsAt A c m sizes, IntsAt A2 c2 m2 colours, IntsAt A3 c3 m3 sets, AllInts vss0_5 ls0_4] w := (hm.pick [3] rfl (by decide)).pickφ [3, 4, 5, 6] rfl
                refine wpList_nil (qn ⟨hS, ?_⟩)
                refine wph_one (i := 14) (by kernel_rfl) (wph_step rfl ?_)
                obtain ⟨l39, el39, H⟩ := bind_get H
                replace hm : Ms _ _ _ _ (AllInts (vss0_5 ++ vs35) l39 :: _) w := hm.addφ (allInts_append el39 (hm.ro 6 rfl) (hm.ro 0 rfl))
                refine wpl_concat_rows (r := l39) 2 0 7 1 rfl rfl ht hm rfl ap_38 rfl rfl rfl rfl rfl rfl el39 ?_
                intro A36 c37 m38 a ht w hm
                have hS : Ms X (fps []) w0 [.blk b1 28 (Col.cells x)] [IntsAt A c m sizes, IntsAt A2 c2 m2 colours, IntsAt A3 c3 m3 sets, AllInts vss0_5 ls0_4] w := (hm.pick [3] rfl (by decide)).pickφ [4, 5, 6, 7] rfl
                refine wpList_nil (qn ⟨hS, ?_⟩)
                refine wph_take (i := 15) rfl (by kernel_rfl) (by kernel_rfl) (by kernel_rfl) (fun _ _ _ h => h) rfl ht hS (wanted_plain rfl) (fun w hm => ev_assign ht rfl rfl) ?_
                intro a ht
                refine wph_done (by kernel_rfl) ?_
                refine blk_normal ?_
                refine then_normal ?_
                refine wpr ?_
                refine wpl rfl rfl ht (ev_move ht rfl rfl) ?_
                intro a ht
                refine wpl rfl rfl ht (ev_arith ht rfl rfl rfl rfl) ?_
                intro a ht
                refine wpl rfl rfl ht (ev_assign ht rfl rfl) ?_
                intro a ht
                refine wpList_nil ?_
                exact then_normal ⟨q6, by omega, l39, (w64 (xs0_6 + 1)), A36, c37, m38, (vss0_5 ++ vs35), H, by omega, ht.sub ⟨rfl, rfl, rfl, rfl, rfl, rfl, rfl, rfl, rfl, trivial⟩, (hm.pick [2, 3] rfl (by decide)).pickφ [4, 5, 6, 0] rfl⟩
            · refine wph_step rfl ?_
              refine wpl rfl rfl ht (ev_len_rows ht rfl rfl und_38 (hm.rowsOf 1 3 rfl rfl)) ?_
              intro a ht
              have hS : Ms X (fps []) w0 [.blk b1 28 (Col.cells x)] [IntsAt A c m sizes, IntsAt A2 c2 m2 colours, IntsAt A3 c3 m3 sets, AllInts vss0_5 ls0_4] w := (hm.pick [2] rfl (by decide)).pickφ [0, 1, 2, 3] rfl
              refine wpList_nil (qn ⟨hS, ?_⟩)
              refine wph_take (i := 12) rfl (by kernel_rfl) (by kernel_rfl) (by kernel_rfl) (fun _ _ _ h => h) rfl ht hS (wanted_plain rfl) (fun w hm => ev_arith ht rfl rfl rfl rfl) ?_
              intro a ht
              refine wph_two (i := 4) (j := 6) (by kernel_rfl) ?_ ?_ 
              · refine wph_step rfl ?_
                obtain ⟨t22, et22, H⟩ := bind_get H
                have hcall := spec_l01Own.calls _ _ A2 c2 m2 colours _ ((fun (hq : Ms _ _ _ ([] ++ [.vec A17 c18 2 1 m19 (ints (t16.set xs0_6.toNat (bitop .or .i64 t20 (shlI .i64 1 (wu64 (colours.length : Int)))))), .vec As0_1 cs0_2 25 1 ms0_3 vss0_5, .blk b1 28 (Col.cells x)]) _ _) => hq.lend (φp := [IntsAt A2 c2 m2 colours]) (allRO_cons (hq.lendFact 1 rfl) (allRO_nil))) (hm.pick (own' := [] ++ [.vec A17 c18 2 1 m19 (ints (t16.set xs0_6.toNat (bitop .or .i64 t20 (shlI .i64 1 (wu64 (colours.length : Int)))))), .vec As0_1 cs0_2 25 1 ms0_3 vss0_5, .blk b1 28 (Col.cells x)]) [0, 1, 2] rfl (by decide))) et22
                refine wpl_call _ rfl rfl ht rfl rfl rfl rfl can_77 hcall ?_
                clear hcall
                rintro _ w ⟨A23, c24, m25, rfl, hpost⟩ a ht
                replace hm := (hm.pick (own' := [] ++ [.vec A17 c18 2 1 m19 (ints (t16.set xs0_6.toNat (bitop .or .i64 t20 (shlI .i64 1 (wu64 (colours.length : Int)))))), .vec As0_1 cs0_2 25 1 ms0_3 vss0_5, .blk b1 28 (Col.cells x)]) [0, 1, 2] rfl (by decide)).backL hpost
                clear hpost
                have hS : Ms X (fps []) w0 [.blk b1 28 (Col.cells x)] [IntsAt A c m sizes, IntsAt A2 c2 m2 colours, IntsAt A3 c3 m3 sets, AllInts vss0_5 ls0_4] w := (hm.pick [3] rfl (by decide)).pickφ [0, 1, 2, 3] rfl
                refine wpList_nil (qn ⟨hS, ?_⟩)
                refine wph_one (i := 6) (by kernel_rfl) (wph_step rfl ?_)
                refine wpl_build_ints (l := [xs0_6]) rfl rfl ht hm rfl und_25 zo_2 sz1_2 (by decide) rfl rfl rfl ?_
                intro A26 a ht w hm
                have hS : Ms X (fps []) w0 [.blk b1 28 (Col.cells x)] [IntsAt A c m sizes, IntsAt A2 c2 m2 colours, IntsAt A3 c3 m3 sets, AllInts vss0_5 ls0_4] w := (hm.pick [4] rfl (by decide)).pickφ [0, 1, 2, 3] rfl
                refine wpList_nil (qn ⟨hS, ?_⟩)
                refine wph_one (i := 7) (by kernel_rfl) (wph_step rfl ?_)
                obtain ⟨l30, el30, H⟩ := bind_get H
                refine wpl_push (r := l30) 1 0 rfl rfl ht hm rfl ap_25 rfl rfl rfl rfl el30 ?_
                intro A27 c28 m29 a ht w hm
                have hS : Ms X (fps []) w0 [.blk b1 28 (Col.cells x)] [IntsAt A c m sizes, IntsAt A2 c2 m2 colours, IntsAt A3 c3 m3 sets, AllInts vss0_5 ls0_4] w := (hm.pick [4] rfl (by decide)).pickφ [0, 1, 2, 3] rfl
                refine wpList_nil (qn ⟨hS, ?_⟩)
                refine wph_one (i := 13) (by kernel_rfl) (wph_step rfl ?_)
                replace hm : Ms _ _ _ _ (IntsAt A27 c28 m29 l30 :: _) w := hm.shutVec 1 rfl
                replace hm : Ms _ _ _ _ (IntsAt A17 c18 m19 (t16.set xs0_6.toNat (bitop .or .i64 t20 (shlI .i64 1 (wu64 (colours.length : Int))))) :: _) w := hm.shutVec 1 rfl
                obtain ⟨t31, et31, H⟩ := bind_get H
                have hcall := ih q6 (by omega) _ _ A c m A27 c28 m29 A17 c18 m19 x sizes l30 (t16.set xs0_6.toNat (bitop .or .i64 t20 (shlI .i64 1 (wu64 (colours.length : Int))))) (w64 (most - (ls0_4.length : Int))) _ ((hm.pick (own' := [] ++ [.vec A26 1 2 1 1 (ints ([xs0_6])), .vec As0_1 cs0_2 25 1 ms0_3 vss0_5, .blk b1 28 (Col.cells x)]) [0, 1, 2] rfl (by decide)).give (passed := []) (rest := [.vec A26 1 2 1 1 (ints ([xs0_6])), .vec As0_1 cs0_2 25 1 ms0_3 vss0_5, .blk b1 28 (Col.cells x)]) (φp := [IntsAt A c m sizes, IntsAt A27 c28 m29 l30, IntsAt A17 c18 m19 (t16.set xs0_6.toNat (bitop .or .i64 t20 (shlI .i64 1 (wu64 (colours.length : Int)))))]) [2, 1, 0] rfl) et31
                refine wpl_call _ rfl rfl ht rfl rfl rfl rfl can_57 hcall ?_
                clear hcall
                rintro _ w ⟨A32, c33, m34, vs35, rfl, hpost⟩ a ht
                replace hm := (hm.pick (own' := [] ++ [.vec A26 1 2 1 1 (ints ([xs0_6])), .vec As0_1 cs0_2 25 1 ms0_3 vss0_5, .blk b1 28 (Col.cells x)]) [0, 1, 2] rfl (by decide)).back hpost
                clear hpost
                have hS : Ms X (fps []) w0 [.blk b1 28 (Col.cells x)] [IntsAt A c m sizes, IntsAt A2 c2 m2 colours, IntsAt A3 c3 m3 sets, AllInts vss0_5 ls0_4] w := (hm.pick [3] rfl (by decide)).pickφ [3, 4, 5, 6] rfl
                refine wpList_nil (qn ⟨hS, ?_⟩)
                refine wph_one (i := 14) (by kernel_rfl) (wph_step rfl ?_)
                obtain ⟨l39, el39, H⟩ := bind_get H
                replace hm : Ms _ _ _ _ (AllInts (vss0_5 ++ vs35) l39 :: _) w := hm.addφ (allInts_append el39 (hm.ro 6 rfl) (hm.ro 0 rfl))
                refine wpl_concat_rows (r := l39) 2 0 7 1 rfl rfl ht hm rfl ap_38 rfl rfl rfl rfl rfl rfl el39 ?_
                intro A36 c37 m38 a ht w hm
                have hS : Ms X (fps []) w0 [.blk b1 28 (Col.cells x)] [IntsAt A c m sizes, IntsAt A2 c2 m2 colours, IntsAt A3 c3 m3 sets, AllInts vss0_5 ls0_4] w := (hm.pick [3] rfl (by decide)).pickφ [4, 5, 6, 7] rfl
                refine wpList_nil (qn ⟨hS, ?_⟩)
                refine wph_take (i := 15) rfl (by kernel_rfl) (by kernel_rfl) (by kernel_rfl) (fun _ _ _ h => h) rfl ht hS (wanted_plain rfl) (fun w hm => ev_assign ht rfl rfl) ?_
                intro a ht
                refine wph_done (by kernel_rfl) ?_
                refine blk_normal ?_
                refine then_normal ?_
                refine wpr ?_
                refine wpl rfl rfl ht (ev_move ht rfl rfl) ?_
                intro a ht
                refine wpl rfl rfl ht (ev_arith ht rfl rfl rfl rfl) ?_
                intro a ht
                refine wpl rfl rfl ht (ev_assign ht rfl rfl) ?_
                intro a ht
                refine wpList_nil ?_
                exact then_normal ⟨q6, by omega, l39, (w64 (xs0_6 + 1)), A36, c37, m38, (vss0_5 ++ vs35), H, by omega, ht.sub ⟨rfl, rfl, rfl, rfl, rfl, rfl, rfl, rfl, rfl, trivial⟩, (hm.pick [2, 3] rfl (by decide)).pickφ [4, 5, 6, 0] rfl⟩
              · refine wph_step rfl ?_
                refine wpl_build_ints (l := [xs0_6]) rfl rfl ht hm rfl und_25 zo_2 sz1_2 (by decide) rfl rfl rfl ?_
                intro A22 a ht w hm
                have hS : Ms X (fps []) w0 [.blk b1 28 (Col.cells x)] [IntsAt A c m sizes, IntsAt A2 c2 m2 colours, IntsAt A3 c3 m3 sets, AllInts vss0_5 ls0_4] w := (hm.pick [3] rfl (by decide)).pickφ [0, 1, 2, 3] rfl
                refine wpList_nil (qn ⟨hS, ?_⟩)
                refine wph_one (i := 4) (by kernel_rfl) (wph_step rfl ?_)
                obtain ⟨t23, et23, H⟩ := bind_get H
                have hcall := spec_l01Own.calls _ _ A2 c2 m2 colours _ ((fun (hq : Ms _ _ _ ([] ++ [.vec A22 1 2 1 1 (ints ([xs0_6])), .vec A17 c18 2 1 m19 (ints (t16.set xs0_6.toNat (bitop .or .i64 t20 (shlI .i64 1 (wu64 (colours.length : Int)))))), .vec As0_1 cs0_2 25 1 ms0_3 vss0_5, .blk b1 28 (Col.cells x)]) _ _) => hq.lend (φp := [IntsAt A2 c2 m2 colours]) (allRO_cons (hq.lendFact 1 rfl) (allRO_nil))) (hm.pick (own' := [] ++ [.vec A22 1 2 1 1 (ints ([xs0_6])), .vec A17 c18 2 1 m19 (ints (t16.set xs0_6.toNat (bitop .or .i64 t20 (shlI .i64 1 (wu64 (colours.length : Int)))))), .vec As0_1 cs0_2 25 1 ms0_3 vss0_5, .blk b1 28 (Col.cells x)]) [0, 1, 2, 3] rfl (by decide))) et23
                refine wpl_call _ rfl rfl ht rfl rfl rfl rfl can_77 hcall ?_
                clear hcall
                rintro _ w ⟨A24, c25, m26, rfl, hpost⟩ a ht
                replace hm := (hm.pick (own' := [] ++ [.vec A22 1 2 1 1 (ints ([xs0_6])), .vec A17 c18 2 1 m19 (ints (t16.set xs0_6.toNat (bitop .or .i64 t20 (shlI .i64 1 (wu64 (colours.length : Int)))))), .vec As0_1 cs0_2 25 1 ms0_3 vss0_5, .blk b1 28 (Col.cells x)]) [0, 1, 2, 3] rfl (by decide)).backL hpost
                clear hpost
                have hS : Ms X (fps []) w0 [.blk b1 28 (Col.cells x)] [IntsAt A c m sizes, IntsAt A2 c2 m2 colours, IntsAt A3 c3 m3 sets, AllInts vss0_5 ls0_4] w := (hm.pick [4] rfl (by decide)).pickφ [0, 1, 2, 3] rfl
                refine wpList_nil (qn ⟨hS, ?_⟩)
                refine wph_one (i := 7) (by kernel_rfl) (wph_step rfl ?_)
                obtain ⟨l30, el30, H⟩ := bind_get H
                refine wpl_push (r := l30) 0 1 rfl rfl ht hm rfl ap_25 rfl rfl rfl rfl el30 ?_
                intro A27 c28 m29 a ht w hm
                have hS : Ms X (fps []) w0 [.blk b1 28 (Col.cells x)] [IntsAt A c m sizes, IntsAt A2 c2 m2 colours, IntsAt A3 c3 m3 sets, AllInts vss0_5 ls0_4] w := (hm.pick [4] rfl (by decide)).pickφ [0, 1, 2, 3] rfl
                refine wpList_nil (qn ⟨hS, ?_⟩)
                refine wph_one (i := 13) (by kernel_rfl) (wph_step rfl ?_)
                replace hm : Ms _ _ _ _ (IntsAt A27 c28 m29 l30 :: _) w := hm.shutVec 0 rfl
                replace hm : Ms _ _ _ _ (IntsAt A17 c18 m19 (t16.set xs0_6.toNat (bitop .or .i64 t20 (shlI .i64 1 (wu64 (colours.length : Int))))) :: _) w := hm.shutVec 1 rfl
                obtain ⟨t31, et31, H⟩ := bind_get H
                have hcall := ih q6 (by omega) _ _ A c m A27 c28 m29 A17 c18 m19 x sizes l30 (t16.set xs0_6.toNat (bitop .or .i64 t20 (shlI .i64 1 (wu64 (colours.length : Int))))) (w64 (most - (ls0_4.length : Int))) _ ((hm.pick (own' := [] ++ [.vec A22 1 2 1 1 (ints ([xs0_6])), .vec As0_1 cs0_2 25 1 ms0_3 vss0_5, .blk b1 28 (Col.cells x)]) [0, 1, 2] rfl (by decide)).give (passed := []) (rest := [.vec A22 1 2 1 1 (ints ([xs0_6])), .vec As0_1 cs0_2 25 1 ms0_3 vss0_5, .blk b1 28 (Col.cells x)]) (φp := [IntsAt A c m sizes, IntsAt A27 c28 m29 l30, IntsAt A17 c18 m19 (t16.set xs0_6.toNat (bitop .or .i64 t20 (shlI .i64 1 (wu64 (colours.length : Int)))))]) [2, 1, 0] rfl) et31
                refine wpl_call _ rfl rfl ht rfl rfl rfl rfl can_57 hcall ?_
                clear hcall
                rintro _ w ⟨A32, c33, m34, vs35, rfl, hpost⟩ a ht
                replace hm := (hm.pick (own' := [] ++ [.vec A22 1 2 1 1 (ints ([xs0_6])), .vec As0_1 cs0_2 25 1 ms0_3 vss0_5, .blk b1 28 (Col.cells x)]) [0, 1, 2] rfl (by decide)).back hpost
                clear hpost
                have hS : Ms X (fps []) w0 [.blk b1 28 (Col.cells x)] [IntsAt A c m sizes, IntsAt A2 c2 m2 colours, IntsAt A3 c3 m3 sets, AllInts vss0_5 ls0_4] w := (hm.pick [3] rfl (by decide)).pickφ [3, 4, 5, 6] rfl
                refine wpList_nil (qn ⟨hS, ?_⟩)
                refine wph_one (i := 14) (by kernel_rfl) (wph_step rfl ?_)
                obtain ⟨l39, el39, H⟩ := bind_get H
                replace hm : Ms _ _ _ _ (AllInts (vss0_5 ++ vs35) l39 :: _) w := hm.addφ (allInts_append el39 (hm.ro 6 rfl) (hm.ro 0 rfl))
                refine wpl_concat_rows (r := l39) 2 0 7 1 rfl rfl ht hm rfl ap_38 rfl rfl rfl rfl rfl rfl el39 ?_
                intro A36 c37 m38 a ht w hm
                have hS : Ms X (fps []) w0 [.blk b1 28 (Col.cells x)] [IntsAt A c m sizes, IntsAt A2 c2 m2 colours, IntsAt A3 c3 m3 sets, AllInts vss0_5 ls0_4] w := (hm.pick [3] rfl (by decide)).pickφ [4, 5, 6, 7] rfl
                refine wpList_nil (qn ⟨hS, ?_⟩)
                refine wph_take (i := 15) rfl (by kernel_rfl) (by kernel_rfl) (by kernel_rfl) (fun _ _ _ h => h) rfl ht hS (wanted_plain rfl) (fun w hm => ev_assign ht rfl rfl) ?_
                intro a ht
                refine wph_done (by kernel_rfl) ?_
                refine blk_normal ?_
                refine then_normal ?_
                refine wpr ?_
                refine wpl rfl rfl ht (ev_move ht rfl rfl) ?_
                intro a ht
                refine wpl rfl rfl ht (ev_arith ht rfl rfl rfl rfl) ?_
                intro a ht
                refine wpl rfl rfl ht (ev_assign ht rfl rfl) ?_
                intro a ht
                refine wpList_nil ?_
                exact then_normal ⟨q6, by omega, l39, (w64 (xs0_6 + 1)), A36, c37, m38, (vss0_5 ++ vs35), H, by omega, ht.sub ⟨rfl, rfl, rfl, rfl, rfl, rfl, rfl, rfl, rfl, trivial⟩, (hm.pick [2, 3] rfl (by decide)).pickφ [4, 5, 6, 0] rfl⟩
      · replace H := ite_no h8 H
        refine wpc_no ht rfl (decide_eq_false h8) ?_
        refine wp_exit ?_
        refine then_exit ?_
        refine then_exit ?_
        refine blk_hit ?_
        refine then_normal ?_
        refine wp_seq ?_
        refine wpr ?_
        refine wpl rfl rfl ht (ev_move ht rfl rfl) ?_
        intro a ht
        refine wpl rfl rfl ht (ev_assign ht rfl rfl) ?_
        intro a ht
        refine wpList_nil ?_
        refine then_normal ?_
        refine wp_ret ?_
        have hres := ht.res (P := Try.prog) (w := w) (rs := [.tmp 10]) (vs := [.slice As0_1 ms0_3 cs0_2]) (.tmp rfl .nil)
        obtain rfl := Option.some.inj H
        exact leave ht rfl hres ⟨As0_1, cs0_2, ms0_3, vss0_5, rfl, ((hm.pick [0] rfl (by decide)).pickφ [3] rfl).post fun _ h => h⟩
    · replace H := ite_no h7 H
      refine wpl_no rfl rfl ht rfl (by rw [(decide_eq_false h7)]; decide) ?_
      intro a ht
      refine wpl_no rfl rfl ht rfl (by rw [(decide_eq_false h7)]; decide) ?_
      intro a ht
      refine wpl_no rfl rfl ht rfl (by rw [(decide_eq_false h7)]; decide) ?_
      intro a ht
      refine wpl_no rfl rfl ht rfl (by rw [(decide_eq_false h7)]; decide) ?_
      intro a ht
      refine wpl rfl rfl ht (ev_pick_no ht rfl rfl (decide_eq_false h7) rfl) ?_
      intro a ht
      refine wpList_nil ?_
      refine then_normal ?_
      refine wpc_no ht rfl rfl ?_
      refine wp_exit ?_
      refine then_exit ?_
      refine then_exit ?_
      refine blk_hit ?_
      refine then_normal ?_
      refine wp_seq ?_
      refine wpr ?_
      refine wpl rfl rfl ht (ev_move ht rfl rfl) ?_
      intro a ht
      refine wpl rfl rfl ht (ev_assign ht rfl rfl) ?_
      intro a ht
      refine wpList_nil ?_
      refine then_normal ?_
      refine wp_ret ?_
      have hres := ht.res (P := Try.prog) (w := w) (rs := [.tmp 10]) (vs := [.slice As0_1 ms0_3 cs0_2]) (.tmp rfl .nil)
      obtain rfl := Option.some.inj H
      exact leave ht rfl hres ⟨As0_1, cs0_2, ms0_3, vss0_5, rfl, ((hm.pick [0] rfl (by decide)).pickφ [3] rfl).post fun _ h => h⟩

end Go.Proofs.Ytocjhmeekecdiaa.G
