/- What each Go function computes, as a Lean function, and the proof that it does: written by a program of this session (wip/gen), part 9. -/
import Derived.Test.YtfbdcidedjocdaaGFnExactPlayOut8
namespace Go.Proofs.Ytfbdcidedjocdaa.G
open Go Go.RowKit Go.Proofs.Ytfbdcidedjocdaa.K
set_option linter.unusedVariables false
set_option linter.unusedSimpArgs false

/-! ### impl_position_movesThat__player_best_1: function 54 ((loop.example/g01362/impl.position).movesThat) -/
def impl_position_movesThat__player_best_1.l0 : Nat → List Int → Int → List Int → Int → List Int → List (ByteArray × Int) → Int → Option (List Int × List (ByteArray × Int))
  | 0, _, _, _, _, _, _, _ => none
  | q6 + 1, p2, so2, so3, so4, ls0_4, ms0_5, xs0_6 => if xs0_6 < (p2.length : Int) then ((getI p2 xs0_6).bind fun t8 => if t8 < 0 then ((impl_player_best_1.f q6 xs0_6 ms0_5 so2 so3 so4).bind fun t10 => if t10.1 = true then ((push ls0_4 xs0_6).bind fun l16 => impl_position_movesThat__player_best_1.l0 q6 p2 so2 so3 so4 l16 t10.2 (w64 (xs0_6 + 1))) else (impl_position_movesThat__player_best_1.l0 q6 p2 so2 so3 so4 ls0_4 t10.2 (w64 (xs0_6 + 1)))) else (impl_position_movesThat__player_best_1.l0 q6 p2 so2 so3 so4 ls0_4 ms0_5 (w64 (xs0_6 + 1)))) else (some (ls0_4, ms0_5))
def impl_position_movesThat__player_best_1.f (k : Nat) (p : Int) (p2 : List Int) (so : List (ByteArray × Int)) (so2 : Int) (so3 : List Int) (so4 : Int) : Option (List Int × List (ByteArray × Int)) := (impl_position_result.f k p p2).bind fun t4 => if t4 ≥ 0 then (some (([] : List Int), so)) else (impl_position_movesThat__player_best_1.l0 k p2 so2 so3 so4 ([] : List Int) so 0)
set_option maxRecDepth 100000 in
set_option maxHeartbeats 1000000 in
theorem impl_position_movesThat__player_best_1.calls (k : Nat) (X : List Nat) (w0 : World) (A : Option Addr) (c : Nat) (m : Nat) (b : Nat) (b2 : Nat) (b3 : Nat) (A2 : Option Addr) (c2 : Nat) (m2 : Nat) (b4 : Nat) (p : Int) (p2 : List Int) (so : List (ByteArray × Int)) (so2 : Int) (so3 : List Int) (so4 : Int) (r : List Int × List (ByteArray × Int))
    (hp : Pre X w0 [.blk b 42 [.map (some b2)], .kv b2 (kvS so), .blk b3 35 [.int .i64 so2, .slice A2 m2 c2], .blk b4 2 [.int .i64 so4]] [IntsAt A c m p2, IntsAt A2 c2 m2 so3]) (H : impl_position_movesThat__player_best_1.f k p p2 so so2 so3 so4 = some r) :
    Calls Try.prog 54 [.agg [.int .i64 p, .slice A m c].toArray, .func (.func 77) [].toArray [.pointer (some ⟨b, 0, none⟩), .pointer (some ⟨b3, 0, none⟩), .pointer (some ⟨b4, 0, none⟩)].toArray].toArray w0 (Ret fun v w => ∃ (A_0 : Option Addr) (c_0 : Nat) (n_0 : Nat), v = .slice A_0 n_0 c_0 ∧ Post X (fps [.blk b 42 [.map (some b2)], .kv b2 (kvS so), .blk b3 35 [.int .i64 so2, .slice A2 m2 c2], .blk b4 2 [.int .i64 so4]]) w0 [.vec A_0 c_0 2 1 n_0 (ints r.1), .blk b 42 [.map (some b2)], .kv b2 (kvS r.2), .blk b3 35 [.int .i64 so2, .slice A2 m2 c2], .blk b4 2 [.int .i64 so4]] [] w) := by
  unfold impl_position_movesThat__player_best_1.f at H
  refine enterM (n := 34) hp Try.func54 rfl rfl (Nat.le_of_ble_eq_true rfl) fun a w ht hm => ?_
  refine wp_seq ?_
  refine wpr ?_
  refine wpl_box rfl rfl ht hm rfl rfl rfl ?_
  intro b1 a ht w hm
  refine wpl rfl rfl ht (ev_assign ht rfl rfl) ?_
  intro a ht
  refine wpList_nil ?_
  refine then_normal ?_
  refine wp_seq ?_
  refine wpr ?_
  refine wpl_build_ints (l := ([] : List Int)) rfl rfl ht hm rfl und_22 zo_2 sz1_2 (by decide) rfl rfl rfl ?_
  intro A3 a ht w hm
  refine wpl rfl rfl ht (ev_assign ht rfl rfl) ?_
  intro a ht
  refine wpList_nil ?_
  refine then_normal ?_
  refine wp_seq ?_
  refine wp_seq ?_
  refine wpr ?_
  refine wpl rfl rfl ht (ev_load_agg (xs := [.int .i64 p, .slice A m c]) ht rfl rfl ag_35 (hm.blk_all 1 rfl)) ?_
  intro a ht
  obtain ⟨t4, et4, H⟩ := bind_get H
  have hcall := impl_position_result.calls k _ _ A c m p p2 _ ((fun (hq : Ms _ _ _ ([] ++ [.vec A3 0 2 1 0 (ints ([] : List Int)), .blk b1 35 [.int .i64 p, .slice A m c], .blk b 42 [.map (some b2)], .kv b2 (kvS so), .blk b3 35 [.int .i64 so2, .slice A2 m2 c2], .blk b4 2 [.int .i64 so4]]) _ _) => hq.lend (φp := [IntsAt A c m p2]) (allRO_cons (hq.lendFact 0 rfl) (allRO_nil))) (hm.pick (own' := [] ++ [.vec A3 0 2 1 0 (ints ([] : List Int)), .blk b1 35 [.int .i64 p, .slice A m c], .blk b 42 [.map (some b2)], .kv b2 (kvS so), .blk b3 35 [.int .i64 so2, .slice A2 m2 c2], .blk b4 2 [.int .i64 so4]]) [0, 1, 2, 3, 4, 5] rfl (by decide))) et4
  refine wpl_call _ rfl rfl ht rfl rfl rfl rfl can_48 hcall ?_
  clear hcall
  rintro _ w ⟨rfl, hpost⟩ a ht
  replace hm := (hm.pick (own' := [] ++ [.vec A3 0 2 1 0 (ints ([] : List Int)), .blk b1 35 [.int .i64 p, .slice A m c], .blk b 42 [.map (some b2)], .kv b2 (kvS so), .blk b3 35 [.int .i64 so2, .slice A2 m2 c2], .blk b4 2 [.int .i64 so4]]) [0, 1, 2, 3, 4, 5] rfl (by decide)).backL hpost
  clear hpost
  refine wpl rfl rfl ht (ev_cmp ht rfl rfl rfl rfl) ?_
  intro a ht
  refine wpList_nil ?_
  refine then_normal ?_
  by_cases h5 : t4 ≥ 0
  · replace H := ite_yes h5 H
    refine wpc_yes ht rfl (decide_eq_true h5) ?_
    refine wp_seq ?_
    refine wpr ?_
    refine wpl rfl rfl ht (ev_move ht rfl rfl) ?_
    intro a ht
    refine wpl rfl rfl ht (ev_assign ht rfl rfl) ?_
    intro a ht
    refine wpList_nil ?_
    refine then_normal ?_
    refine wp_ret ?_
    refine then_ret ?_
    have hres := ht.res (P := Try.prog) (w := w) (rs := [.tmp 4]) (vs := [.slice A3 0 0]) (.tmp rfl .nil)
    obtain rfl := Option.some.inj H
    exact leave ht rfl hres ⟨A3, 0, 0, rfl, ((hm.pick [0, 2, 3, 4, 5] rfl (by decide)).pickφ [] rfl).post fun _ h => h⟩
  · replace H := ite_no h5 H
    refine wpc_no ht rfl (decide_eq_false h5) ?_
    refine wp_skip ?_
    refine then_normal ?_
    refine wp_seq ?_
    refine wp_seq ?_
    refine wpr ?_
    refine wpl rfl rfl ht (ev_fieldAddr ht rfl rfl fo_35_1) ?_
    intro a ht
    refine wpl rfl rfl ht (ev_load ht rfl rfl sc_22 (hm.blk_cell 1 rfl rfl)) ?_
    intro a ht
    refine wpl rfl rfl ht (ev_len_of ht rfl rfl und_22 (hm.fact (φ := IntsAt A c m p2) 0 rfl)) ?_
    intro a ht
    refine wpl rfl rfl ht (ev_move ht rfl rfl) ?_
    intro a ht
    refine wpList_nil ?_
    refine then_normal ?_
    refine wp_block ?_
    refine wpLoop (fun q a w => ∃ (ls0_4 : List Int) (ms0_5 : List (ByteArray × Int)) (xs0_6 : Int) (As0_1 : Option Addr) (cs0_2 : Nat) (ms0_3 : Nat), impl_position_movesThat__player_best_1.l0 q p2 so2 so3 so4 ls0_4 ms0_5 xs0_6 = some r ∧ q ≤ k ∧ Tm 34 [(1, .func (.func 77) [].toArray [.pointer (some ⟨b, 0, none⟩), .pointer (some ⟨b3, 0, none⟩), .pointer (some ⟨b4, 0, none⟩)].toArray), (4, .slice none 0 0), (5, .slice As0_1 ms0_3 cs0_2), (14, .slice A m c), (15, .int .i64 (p2.length : Int)), (16, .int .i64 xs0_6)] a ∧ Ms X (fps [.blk b 42 [.map (some b2)], .kv b2 (kvS so), .blk b3 35 [.int .i64 so2, .slice A2 m2 c2], .blk b4 2 [.int .i64 so4]]) w0 [.vec As0_1 cs0_2 2 1 ms0_3 (ints ls0_4), .blk b1 35 [.int .i64 p, .slice A m c], .blk b 42 [.map (some b2)], .kv b2 (kvS ms0_5), .blk b3 35 [.int .i64 so2, .slice A2 m2 c2], .blk b4 2 [.int .i64 so4]] [IntsAt A c m p2, IntsAt A2 c2 m2 so3] w) (k0 := k) ⟨([] : List Int), so, 0, A3, 0, 0, H, Nat.le_refl _, ht.sub ⟨rfl, rfl, rfl, rfl, rfl, rfl, trivial⟩, (hm.pick [0, 1, 2, 3, 4, 5] rfl (by decide)).pickφ [0, 1] rfl⟩ ?_
    clear H ht hm
    intro q6 a w hJ
    obtain ⟨ls0_4, ms0_5, xs0_6, As0_1, cs0_2, ms0_3, H, hqq6, ht, hm⟩ := hJ
    cases q6 with
    | zero => cases H
    | succ q6 =>
    rw [impl_position_movesThat__player_best_1.l0] at H
    refine wp_seq ?_
    refine wpr ?_
    refine wpl rfl rfl ht (ev_cmp ht rfl rfl rfl rfl) ?_
    intro a ht
    refine wpList_nil ?_
    refine then_normal ?_
    refine wp_seq ?_
    by_cases h7 : xs0_6 < (p2.length : Int)
    · replace H := ite_yes h7 H
      refine wpc_yes ht rfl (decide_eq_true h7) ?_
      refine wp_skip ?_
      refine then_normal ?_
      refine wp_seq ?_
      refine wp_block ?_
      refine wp_seq ?_
      refine wpr ?_
      refine wpl rfl rfl ht (ev_move ht rfl rfl) ?_
      intro a ht
      obtain ⟨t8, et8, H⟩ := bind_get H
      refine wpl rfl rfl ht (ev_index_ints ht rfl rfl rfl so_22 (hm.fact (φ := IntsAt A c m p2) 0 rfl) et8) ?_
      intro a ht
      refine wpl rfl rfl ht (ev_load ht rfl rfl sc_2 (RowAt.cell (hm.fact (φ := IntsAt A c m p2) 0 rfl) (ints_get et8) rfl)) ?_
      intro a ht
      refine wpl rfl rfl ht (ev_assign ht rfl rfl) ?_
      intro a ht
      refine wpl rfl rfl ht (ev_assign ht rfl rfl) ?_
      intro a ht
      refine wpList_nil ?_
      refine then_normal ?_
      refine wp_seq ?_
      refine wpr ?_
      refine wpl rfl rfl ht (ev_move ht rfl rfl) ?_
      intro a ht
      refine wpl rfl rfl ht (ev_cmp ht rfl rfl rfl rfl) ?_
      intro a ht
      refine wpl rfl rfl ht (ev_move ht rfl rfl) ?_
      intro a ht
      by_cases h9 : t8 < 0
      · replace H := ite_yes h9 H
        refine wpl_yes rfl ht rfl ((decide_eq_true h9)) ?_
        refine wpl rfl rfl ht (ev_move ht rfl rfl) ?_
        intro a ht
        refine wpl_yes rfl ht rfl ((decide_eq_true h9)) ?_
        refine wpl rfl rfl ht (ev_move ht rfl rfl) ?_
        intro a ht
        refine wpl_yes rfl ht rfl ((decide_eq_true h9)) ?_
        obtain ⟨t10, et10, H⟩ := bind_get H
        have hcall := impl_player_best_1.calls q6 _ _ b b2 b3 A2 c2 m2 b4 xs0_6 ms0_5 so2 so3 so4 _ ((fun (hq : Ms _ _ _ ([.blk b 42 [.map (some b2)], .kv b2 (kvS ms0_5), .blk b3 35 [.int .i64 so2, .slice A2 m2 c2], .blk b4 2 [.int .i64 so4]] ++ [.vec As0_1 cs0_2 2 1 ms0_3 (ints ls0_4), .blk b1 35 [.int .i64 p, .slice A m c]]) _ _) => hq.lend (φp := [IntsAt A2 c2 m2 so3]) (allRO_cons (hq.lendFact 1 rfl) (allRO_nil))) (hm.pick (own' := [.blk b 42 [.map (some b2)], .kv b2 (kvS ms0_5), .blk b3 35 [.int .i64 so2, .slice A2 m2 c2], .blk b4 2 [.int .i64 so4]] ++ [.vec As0_1 cs0_2 2 1 ms0_3 (ints ls0_4), .blk b1 35 [.int .i64 p, .slice A m c]]) [2, 3, 4, 5, 0, 1] rfl (by decide))) et10
        refine wpl_call _ rfl rfl ht rfl rfl rfl rfl can_77 hcall ?_
        clear hcall
        rintro _ w ⟨rfl, hpost⟩ a ht
        replace hm := (hm.pick (own' := [.blk b 42 [.map (some b2)], .kv b2 (kvS ms0_5), .blk b3 35 [.int .i64 so2, .slice A2 m2 c2], .blk b4 2 [.int .i64 so4]] ++ [.vec As0_1 cs0_2 2 1 ms0_3 (ints ls0_4), .blk b1 35 [.int .i64 p, .slice A m c]]) [2, 3, 4, 5, 0, 1] rfl (by decide)).backL hpost
        clear hpost
        refine wpl rfl rfl ht (ev_pick_yes ht rfl rfl (decide_eq_true h9) rfl) ?_
        intro a ht
        refine wpList_nil ?_
        refine then_normal ?_
        by_cases h11 : t10.1 = true
        · replace H := ite_yes h11 H
          refine wpc_yes ht rfl h11 ?_
          refine wpr ?_
          refine wpl rfl rfl ht (ev_move ht rfl rfl) ?_
          intro a ht
          refine wpl rfl rfl ht (ev_move ht rfl rfl) ?_
          intro a ht
          refine wpl_build_ints (l := [xs0_6]) rfl rfl ht hm rfl und_22 zo_2 sz1_2 (by decide) rfl rfl rfl ?_
          intro A12 a ht w hm
          obtain ⟨l16, el16, H⟩ := bind_get H
          refine wpl_push (r := l16) 5 0 rfl rfl ht hm rfl ap_22 rfl rfl rfl rfl el16 ?_
          intro A13 c14 m15 a ht w hm
          refine wpl rfl rfl ht (ev_assign ht rfl rfl) ?_
          intro a ht
          refine wpList_nil ?_
          refine blk_normal ?_
          refine then_normal ?_
          refine wpr ?_
          refine wpl rfl rfl ht (ev_arith ht rfl rfl rfl rfl) ?_
          intro a ht
          refine wpl rfl rfl ht (ev_move ht rfl rfl) ?_
          intro a ht
          refine wpList_nil ?_
          exact then_normal ⟨q6, by omega, l16, t10.2, (w64 (xs0_6 + 1)), A13, c14, m15, H, by omega, ht.sub ⟨rfl, rfl, rfl, rfl, rfl, rfl, trivial⟩, (hm.pick [5, 6, 1, 2, 3, 4] rfl (by decide)).pickφ [0, 1] rfl⟩
        · replace H := ite_no h11 H
          refine wpc_no ht rfl (Bool.eq_false_iff.mpr h11) ?_
          refine wp_skip ?_
          refine blk_normal ?_
          refine then_normal ?_
          refine wpr ?_
          refine wpl rfl rfl ht (ev_arith ht rfl rfl rfl rfl) ?_
          intro a ht
          refine wpl rfl rfl ht (ev_move ht rfl rfl) ?_
          intro a ht
          refine wpList_nil ?_
          exact then_normal ⟨q6, by omega, ls0_4, t10.2, (w64 (xs0_6 + 1)), As0_1, cs0_2, ms0_3, H, by omega, ht.sub ⟨rfl, rfl, rfl, rfl, rfl, rfl, trivial⟩, (hm.pick [4, 5, 0, 1, 2, 3] rfl (by decide)).pickφ [0, 1] rfl⟩
      · replace H := ite_no h9 H
        refine wpl_no rfl rfl ht rfl (by rw [(decide_eq_false h9)]; decide) ?_
        intro a ht
        refine wpl_no rfl rfl ht rfl (by rw [(decide_eq_false h9)]; decide) ?_
        intro a ht
        refine wpl_no rfl rfl ht rfl (by rw [(decide_eq_false h9)]; decide) ?_
        intro a ht
        refine wpl rfl rfl ht (ev_pick_no ht rfl rfl (decide_eq_false h9) rfl) ?_
        intro a ht
        refine wpList_nil ?_
        refine then_normal ?_
        refine wpc_no ht rfl rfl ?_
        refine wp_skip ?_
        refine blk_normal ?_
        refine then_normal ?_
        refine wpr ?_
        refine wpl rfl rfl ht (ev_arith ht rfl rfl rfl rfl) ?_
        intro a ht
        refine wpl rfl rfl ht (ev_move ht rfl rfl) ?_
        intro a ht
        refine wpList_nil ?_
        exact then_normal ⟨q6, by omega, ls0_4, ms0_5, (w64 (xs0_6 + 1)), As0_1, cs0_2, ms0_3, H, by omega, ht.sub ⟨rfl, rfl, rfl, rfl, rfl, rfl, trivial⟩, (hm.pick [0, 1, 2, 3, 4, 5] rfl (by decide)).pickφ [0, 1] rfl⟩
    · replace H := ite_no h7 H
      refine wpc_no ht rfl (decide_eq_false h7) ?_
      refine wp_exit ?_
      refine then_exit ?_
      refine then_exit ?_
      refine blk_hit ?_
      refine then_normal ?_
      refine wp_seq ?_
      refine wpr ?_
      refine wpl rfl rfl ht (ev_move ht rfl rfl) ?_
      intro a ht
      refine wpl rfl rfl ht (ev_assign ht rfl rfl) ?_
      intro a ht
      refine wpList_nil ?_
      refine then_normal ?_
      refine wp_ret ?_
      have hres := ht.res (P := Try.prog) (w := w) (rs := [.tmp 4]) (vs := [.slice As0_1 ms0_3 cs0_2]) (.tmp rfl .nil)
      obtain rfl := Option.some.inj H
      exact leave ht rfl hres ⟨As0_1, cs0_2, ms0_3, rfl, ((hm.pick [0, 2, 3, 4, 5] rfl (by decide)).pickφ [] rfl).post fun _ h => h⟩

/-! ### impl_player_best: function 49 ((loop.example/g01362/impl.player).best) -/
def impl_player_best.f (k : Nat) (k_ : List (ByteArray × Int)) (p : Int) (p2 : List Int) : Option (List Int × List (ByteArray × Int)) := (impl_player_outcome.f k k_ p p2).bind fun t3 => (impl_position_movesThat__player_best_1.f k p p2 t3.2 p p2 t3.1).bind fun t5 => some (t5.1, t5.2)
set_option maxRecDepth 100000 in
set_option maxHeartbeats 1000000 in
theorem impl_player_best.calls (k : Nat) (X : List Nat) (w0 : World) (b : Nat) (A : Option Addr) (c : Nat) (m : Nat) (k_ : List (ByteArray × Int)) (p : Int) (p2 : List Int) (r : List Int × List (ByteArray × Int))
    (hp : Pre X w0 [.kv b (kvS k_)] [IntsAt A c m p2]) (H : impl_player_best.f k k_ p p2 = some r) :
    Calls Try.prog 49 [.map (some b), .agg [.int .i64 p, .slice A m c].toArray].toArray w0 (Ret fun v w => ∃ (A_0 : Option Addr) (c_0 : Nat) (n_0 : Nat), v = .slice A_0 n_0 c_0 ∧ Post X (fps [.kv b (kvS k_)]) w0 [.vec A_0 c_0 2 1 n_0 (ints r.1), .kv b (kvS r.2)] [] w) := by
  unfold impl_player_best.f at H
  refine enterM (n := 12) hp Try.func49 rfl rfl (Nat.le_of_ble_eq_true rfl) fun a w ht hm => ?_
  refine wp_seq ?_
  refine wpr ?_
  refine wpl_box rfl rfl ht hm rfl rfl rfl ?_
  intro b1 a ht w hm
  refine wpl_box rfl rfl ht hm rfl rfl rfl ?_
  intro b2 a ht w hm
  refine wpl rfl rfl ht (ev_assign ht rfl rfl) ?_
  intro a ht
  refine wpList_nil ?_
  refine then_normal ?_
  refine wp_seq ?_
  refine wpr ?_
  refine wpl rfl rfl ht (ev_load ht rfl rfl sc_42 (hm.blk_cell 1 rfl rfl)) ?_
  intro a ht
  refine wpl rfl rfl ht (ev_load_agg (xs := [.int .i64 p, .slice A m c]) ht rfl rfl ag_35 (hm.blk_all 0 rfl)) ?_
  intro a ht
  obtain ⟨t3, et3, H⟩ := bind_get H
  have hcall := impl_player_outcome.calls k _ _ b A c m k_ p p2 _ ((fun (hq : Ms _ _ _ ([.kv b (kvS k_)] ++ [.blk b2 35 [.int .i64 p, .slice A m c], .blk b1 42 [.map (some b)]]) _ _) => hq.lend (φp := [IntsAt A c m p2]) (allRO_cons (hq.lendFact 0 rfl) (allRO_nil))) (hm.pick (own' := [.kv b (kvS k_)] ++ [.blk b2 35 [.int .i64 p, .slice A m c], .blk b1 42 [.map (some b)]]) [2, 0, 1] rfl (by decide))) et3
  refine wpl_call _ rfl rfl ht rfl rfl rfl rfl can_64 hcall ?_
  clear hcall
  rintro _ w ⟨rfl, hpost⟩ a ht
  replace hm := (hm.pick (own' := [.kv b (kvS k_)] ++ [.blk b2 35 [.int .i64 p, .slice A m c], .blk b1 42 [.map (some b)]]) [2, 0, 1] rfl (by decide)).backL hpost
  clear hpost
  refine wpl_alloc rfl rfl ht hm rfl zo_2 ?_
  intro b4 a ht w hm
  refine wpl_store_blk 0 rfl rfl ht hm rfl rfl rfl sz1_2 rfl rfl rfl ?_
  intro a ht w hm
  refine wpList_nil ?_
  refine then_normal ?_
  refine wp_seq ?_
  refine wpr ?_
  refine wpl rfl rfl ht (ev_load_agg (xs := [.int .i64 p, .slice A m c]) ht rfl rfl ag_35 (hm.blk_all 2 rfl)) ?_
  intro a ht
  refine wpl rfl rfl ht (ev_makeFunc ht rfl rfl rfl) ?_
  intro a ht
  obtain ⟨t5, et5, H⟩ := bind_get H
  have hcall := impl_position_movesThat__player_best_1.calls k _ _ A c m b1 b b2 A c m b4 p p2 t3.2 p p2 t3.1 _ ((fun (hq : Ms _ _ _ ([.blk b1 42 [.map (some b)], .kv b (kvS t3.2), .blk b2 35 [.int .i64 p, .slice A m c], .blk b4 2 [.int .i64 t3.1]] ++ []) _ _) => hq.lend (φp := [IntsAt A c m p2, IntsAt A c m p2]) (allRO_cons (hq.lendFact 0 rfl) (allRO_cons (hq.lendFact 0 rfl) (allRO_nil)))) (hm.pick (own' := [.blk b1 42 [.map (some b)], .kv b (kvS t3.2), .blk b2 35 [.int .i64 p, .slice A m c], .blk b4 2 [.int .i64 t3.1]] ++ []) [3, 1, 2, 0] rfl (by decide))) et5
  refine wpl_call _ rfl rfl ht rfl rfl rfl rfl can_54 hcall ?_
  clear hcall
  rintro _ w ⟨A6, c7, m8, rfl, hpost⟩ a ht
  replace hm := (hm.pick (own' := [.blk b1 42 [.map (some b)], .kv b (kvS t3.2), .blk b2 35 [.int .i64 p, .slice A m c], .blk b4 2 [.int .i64 t3.1]] ++ []) [3, 1, 2, 0] rfl (by decide)).backL hpost
  clear hpost
  refine wpl rfl rfl ht (ev_assign ht rfl rfl) ?_
  intro a ht
  refine wpList_nil ?_
  refine then_normal ?_
  refine wp_ret ?_
  have hres := ht.res (P := Try.prog) (w := w) (rs := [.tmp 4]) (vs := [.slice A6 m8 c7]) (.tmp rfl .nil)
  obtain rfl := Option.some.inj H
  exact leave ht rfl hres ⟨A6, c7, m8, rfl, ((hm.pick [0, 2] rfl (by decide)).pickφ [] rfl).post fun _ h => h⟩

/-! ### impl_PlayOut: function 18 (loop.example/g01362/impl.PlayOut) -/
def impl_PlayOut.l0 : Nat → List Int → List (ByteArray × Int) → Int → List Int → Option (List Int × Int)
  | 0, _, _, _, _ => none
  | q7 + 1, ls0_4, ms0_5, xs0_6, ls0_10 => (impl_position_result.f q7 xs0_6 ls0_10).bind fun t8 => if t8 < 0 then ((impl_player_best.f q7 ms0_5 xs0_6 ls0_10).bind fun t10 => (getI t10.1 0).bind fun t14 => (push ls0_4 t14).bind fun l19 => (impl_position_moved.f q7 xs0_6 ls0_10 t14).bind fun t20 => impl_PlayOut.l0 q7 l19 t10.2 t20.1 t20.2) else (some (ls0_4, 0))
def impl_PlayOut.f (k : Nat) (n_ : Int) (list : List Int) : Option (List Int × Int) := (impl_position_code__always.f k n_ list).bind fun t2 => if t2 ≠ 0 then (some (([] : List Int), t2)) else (impl_PlayOut.l0 k ([] : List Int) ([] : List (ByteArray × Int)) n_ list)
set_option maxRecDepth 100000 in
set_option maxHeartbeats 1000000 in
theorem impl_PlayOut.calls (k : Nat) (X : List Nat) (w0 : World) (A : Option Addr) (c : Nat) (m : Nat) (n_ : Int) (list : List Int) (r : List Int × Int)
    (hp : Pre X w0 [] [IntsAt A c m list]) (H : impl_PlayOut.f k n_ list = some r) :
    Calls Try.prog 18 [.int .i64 n_, .slice A m c].toArray w0 (Ret fun v w => ∃ (A_0 : Option Addr) (c_0 : Nat) (n_0 : Nat), v = .tuple [.slice A_0 n_0 c_0, .int .i64 r.2].toArray ∧ Post X (fps []) w0 [.vec A_0 c_0 2 1 n_0 (ints r.1)] [] w) := by
  unfold impl_PlayOut.f at H
  refine enterM (n := 37) hp Try.func18 rfl rfl (Nat.le_of_ble_eq_true rfl) fun a w ht hm => ?_
  refine wp_seq ?_
  refine wpr ?_
  refine wpl rfl rfl ht (ev_assign ht rfl rfl) ?_
  intro a ht
  refine wpl rfl rfl ht (ev_assign ht rfl rfl) ?_
  intro a ht
  refine wpList_nil ?_
  refine then_normal ?_
  refine wp_seq ?_
  refine wpr ?_
  refine wpl rfl rfl ht (ev_move ht rfl rfl) ?_
  intro a ht
  refine wpl rfl rfl ht (ev_move ht rfl rfl) ?_
  intro a ht
  refine wpl rfl rfl ht (ev_build (vs := [.int .i64 n_, .slice A m c]) ht rfl bi_35 rfl rfl) ?_
  intro a ht
  refine wpl_alloc rfl rfl ht hm rfl zo_35 ?_
  intro b1 a ht w hm
  refine wpl_store_whole 0 rfl rfl ht hm rfl rfl rfl szn_35 rfl rfl (by simp [Value.oneCell']) ?_
  intro a ht w hm
  refine wpList_nil ?_
  refine then_normal ?_
  refine wp_seq ?_
  refine wp_seq ?_
  refine wpr ?_
  refine wpl rfl rfl ht (ev_load_agg (xs := [.int .i64 n_, .slice A m c]) ht rfl rfl ag_35 (hm.blk_all 0 rfl)) ?_
  intro a ht
  obtain ⟨t2, et2, H⟩ := bind_get H
  have hcall := impl_position_code__always.calls k _ _ A c m n_ list _ ((fun (hq : Ms _ _ _ ([] ++ [.blk b1 35 [.int .i64 n_, .slice A m c]]) _ _) => hq.lend (φp := [IntsAt A c m list]) (allRO_cons (hq.lendFact 0 rfl) (allRO_nil))) (hm.pick (own' := [] ++ [.blk b1 35 [.int .i64 n_, .slice A m c]]) [0] rfl (by decide))) et2
  refine wpl_call _ rfl rfl ht rfl rfl rfl rfl can_46 hcall ?_
  clear hcall
  rintro _ w ⟨rfl, hpost⟩ a ht
  replace hm := (hm.pick (own' := [] ++ [.blk b1 35 [.int .i64 n_, .slice A m c]]) [0] rfl (by decide)).backL hpost
  clear hpost
  refine wpl rfl rfl ht (ev_assign ht rfl rfl) ?_
  intro a ht
  refine wpList_nil ?_
  refine then_normal ?_
  refine wp_seq ?_
  refine wpr ?_
  refine wpl rfl rfl ht (ev_move ht rfl rfl) ?_
  intro a ht
  refine wpl rfl rfl ht (ev_cmp ht rfl rfl rfl rfl) ?_
  intro a ht
  refine wpList_nil ?_
  refine then_normal ?_
  by_cases h3 : t2 ≠ 0
  · replace H := ite_yes h3 H
    refine wpc_yes ht rfl (decide_eq_true h3) ?_
    refine wp_seq ?_
    refine wpr ?_
    refine wpl rfl rfl ht (ev_move ht rfl rfl) ?_
    intro a ht
    refine wpl rfl rfl ht (ev_assign ht rfl rfl) ?_
    intro a ht
    refine wpl rfl rfl ht (ev_assign ht rfl rfl) ?_
    intro a ht
    refine wpList_nil ?_
    refine then_normal ?_
    refine wp_ret ?_
    refine then_ret ?_
    have hres := ht.res (P := Try.prog) (w := w) (rs := [.tmp 4, .tmp 5]) (vs := [.slice none 0 0, .int .i64 t2]) (.tmp rfl (.tmp rfl .nil))
    replace hm : Ms _ _ _ (.vec none 0 2 1 0 (ints ([] : List Int)) :: _) _ w := hm.nilVec none 2 1
    obtain rfl := Option.some.inj H
    exact leave ht rfl hres ⟨none, 0, 0, rfl, ((hm.pick [0] rfl (by decide)).pickφ [] rfl).post fun _ h => h⟩
  · replace H := ite_no h3 H
    refine wpc_no ht rfl (decide_eq_false h3) ?_
    refine wp_skip ?_
    refine then_normal ?_
    refine wp_seq ?_
    refine wpr ?_
    refine wpl_makeMap rfl rfl ht hm rfl ?_
    intro b5 a ht w hm
    refine wpl_build_ints (l := ([] : List Int)) rfl rfl ht hm rfl und_22 zo_2 sz1_2 (by decide) rfl rfl rfl ?_
    intro A6 a ht w hm
    refine wpl rfl rfl ht (ev_assign ht rfl rfl) ?_
    intro a ht
    refine wpl rfl rfl ht (ev_assign ht rfl rfl) ?_
    intro a ht
    refine wpList_nil ?_
    refine then_normal ?_
    refine wp_seq ?_
    refine wp_block ?_
    refine wpLoop (fun q a w => ∃ (ls0_4 : List Int) (ms0_5 : List (ByteArray × Int)) (xs0_6 : Int) (ls0_10 : List Int) (As0_1 : Option Addr) (cs0_2 : Nat) (ms0_3 : Nat) (As0_7 : Option Addr) (cs0_8 : Nat) (ms0_9 : Nat), impl_PlayOut.l0 q ls0_4 ms0_5 xs0_6 ls0_10 = some r ∧ q ≤ k ∧ Tm 37 [(4, .slice none 0 0), (5, .int .i64 0), (6, .pointer (some ⟨b1, 0, none⟩)), (8, .map (some b5)), (9, .slice As0_1 ms0_3 cs0_2)] a ∧ Ms X (fps []) w0 [.vec As0_1 cs0_2 2 1 ms0_3 (ints ls0_4), .kv b5 (kvS ms0_5), .blk b1 35 [.int .i64 xs0_6, .slice As0_7 ms0_9 cs0_8]] [IntsAt As0_7 cs0_8 ms0_9 ls0_10, IntsAt A c m list] w) (k0 := k) ⟨([] : List Int), ([] : List (ByteArray × Int)), n_, list, A6, 0, 0, A, c, m, H, Nat.le_refl _, ht.sub ⟨rfl, rfl, rfl, rfl, rfl, trivial⟩, (hm.pick [0, 1, 2] rfl (by decide)).pickφ [0, 0] rfl⟩ ?_
    clear H ht hm
    intro q7 a w hJ
    obtain ⟨ls0_4, ms0_5, xs0_6, ls0_10, As0_1, cs0_2, ms0_3, As0_7, cs0_8, ms0_9, H, hqq7, ht, hm⟩ := hJ
    cases q7 with
    | zero => cases H
    | succ q7 =>
    rw [impl_PlayOut.l0] at H
    refine wp_seq ?_
    refine wp_seq ?_
    refine wpr ?_
    refine wpl rfl rfl ht (ev_load_agg (xs := [.int .i64 xs0_6, .slice As0_7 ms0_9 cs0_8]) ht rfl rfl ag_35 (hm.blk_all 2 rfl)) ?_
    intro a ht
    obtain ⟨t8, et8, H⟩ := bind_get H
    have hcall := impl_position_result.calls q7 _ _ As0_7 cs0_8 ms0_9 xs0_6 ls0_10 _ ((fun (hq : Ms _ _ _ ([] ++ [.vec As0_1 cs0_2 2 1 ms0_3 (ints ls0_4), .kv b5 (kvS ms0_5), .blk b1 35 [.int .i64 xs0_6, .slice As0_7 ms0_9 cs0_8]]) _ _) => hq.lend (φp := [IntsAt As0_7 cs0_8 ms0_9 ls0_10]) (allRO_cons (hq.lendFact 0 rfl) (allRO_nil))) (hm.pick (own' := [] ++ [.vec As0_1 cs0_2 2 1 ms0_3 (ints ls0_4), .kv b5 (kvS ms0_5), .blk b1 35 [.int .i64 xs0_6, .slice As0_7 ms0_9 cs0_8]]) [0, 1, 2] rfl (by decide))) et8
    refine wpl_call _ rfl rfl ht rfl rfl rfl rfl can_48 hcall ?_
    clear hcall
    rintro _ w ⟨rfl, hpost⟩ a ht
    replace hm := (hm.pick (own' := [] ++ [.vec As0_1 cs0_2 2 1 ms0_3 (ints ls0_4), .kv b5 (kvS ms0_5), .blk b1 35 [.int .i64 xs0_6, .slice As0_7 ms0_9 cs0_8]]) [0, 1, 2] rfl (by decide)).backL hpost
    clear hpost
    refine wpl rfl rfl ht (ev_cmp ht rfl rfl rfl rfl) ?_
    intro a ht
    refine wpList_nil ?_
    refine then_normal ?_
    by_cases h9 : t8 < 0
    · replace H := ite_yes h9 H
      refine wpc_yes ht rfl (decide_eq_true h9) ?_
      refine wp_skip ?_
      refine then_normal ?_
      refine wp_block ?_
      refine wp_seq ?_
      refine wpr ?_
      refine wpl rfl rfl ht (ev_move ht rfl rfl) ?_
      intro a ht
      refine wpl rfl rfl ht (ev_load_agg (xs := [.int .i64 xs0_6, .slice As0_7 ms0_9 cs0_8]) ht rfl rfl ag_35 (hm.blk_all 2 rfl)) ?_
      intro a ht
      obtain ⟨t10, et10, H⟩ := bind_get H
      have hcall := impl_player_best.calls q7 _ _ b5 As0_7 cs0_8 ms0_9 ms0_5 xs0_6 ls0_10 _ ((fun (hq : Ms _ _ _ ([.kv b5 (kvS ms0_5)] ++ [.vec As0_1 cs0_2 2 1 ms0_3 (ints ls0_4), .blk b1 35 [.int .i64 xs0_6, .slice As0_7 ms0_9 cs0_8]]) _ _) => hq.lend (φp := [IntsAt As0_7 cs0_8 ms0_9 ls0_10]) (allRO_cons (hq.lendFact 0 rfl) (allRO_nil))) (hm.pick (own' := [.kv b5 (kvS ms0_5)] ++ [.vec As0_1 cs0_2 2 1 ms0_3 (ints ls0_4), .blk b1 35 [.int .i64 xs0_6, .slice As0_7 ms0_9 cs0_8]]) [1, 0, 2] rfl (by decide))) et10
      refine wpl_call _ rfl rfl ht rfl rfl rfl rfl can_49 hcall ?_
      clear hcall
      rintro _ w ⟨A11, c12, m13, rfl, hpost⟩ a ht
      replace hm := (hm.pick (own' := [.kv b5 (kvS ms0_5)] ++ [.vec As0_1 cs0_2 2 1 ms0_3 (ints ls0_4), .blk b1 35 [.int .i64 xs0_6, .slice As0_7 ms0_9 cs0_8]]) [1, 0, 2] rfl (by decide)).backL hpost
      clear hpost
      obtain ⟨t14, et14, H⟩ := bind_get H
      refine wpl rfl rfl ht (ev_index_ints ht rfl rfl rfl so_22 (hm.vec_row 0 rfl) et14) ?_
      intro a ht
      refine wpl rfl rfl ht (ev_load ht rfl rfl sc_2 (RowAt.cell (hm.vec_row 0 rfl) (ints_get et14) rfl)) ?_
      intro a ht
      refine wpl rfl rfl ht (ev_assign ht rfl rfl) ?_
      intro a ht
      refine wpList_nil ?_
      refine then_normal ?_
      refine wp_seq ?_
      refine wpr ?_
      refine wpl rfl rfl ht (ev_move ht rfl rfl) ?_
      intro a ht
      refine wpl rfl rfl ht (ev_move ht rfl rfl) ?_
      intro a ht
      refine wpl_build_ints (l := [t14]) rfl rfl ht hm rfl und_22 zo_2 sz1_2 (by decide) rfl rfl rfl ?_
      intro A15 a ht w hm
      obtain ⟨l19, el19, H⟩ := bind_get H
      refine wpl_push (r := l19) 3 0 rfl rfl ht hm rfl ap_22 rfl rfl rfl rfl el19 ?_
      intro A16 c17 m18 a ht w hm
      refine wpl rfl rfl ht (ev_assign ht rfl rfl) ?_
      intro a ht
      refine wpList_nil ?_
      refine then_normal ?_
      refine wpr ?_
      refine wpl rfl rfl ht (ev_load_agg (xs := [.int .i64 xs0_6, .slice As0_7 ms0_9 cs0_8]) ht rfl rfl ag_35 (hm.blk_all 4 rfl)) ?_
      intro a ht
      refine wpl rfl rfl ht (ev_move ht rfl rfl) ?_
      intro a ht
      obtain ⟨t20, et20, H⟩ := bind_get H
      have hcall := impl_position_moved.calls q7 _ _ As0_7 cs0_8 ms0_9 xs0_6 ls0_10 t14 _ ((fun (hq : Ms _ _ _ ([] ++ [.vec A15 1 2 1 1 (ints ([t14])), .vec A11 c12 2 1 m13 (ints t10.1), .kv b5 (kvS t10.2), .vec A16 c17 2 1 m18 (ints l19), .blk b1 35 [.int .i64 xs0_6, .slice As0_7 ms0_9 cs0_8]]) _ _) => hq.lend (φp := [IntsAt As0_7 cs0_8 ms0_9 ls0_10]) (allRO_cons (hq.lendFact 0 rfl) (allRO_nil))) (hm.pick (own' := [] ++ [.vec A15 1 2 1 1 (ints ([t14])), .vec A11 c12 2 1 m13 (ints t10.1), .kv b5 (kvS t10.2), .vec A16 c17 2 1 m18 (ints l19), .blk b1 35 [.int .i64 xs0_6, .slice As0_7 ms0_9 cs0_8]]) [0, 1, 2, 3, 4] rfl (by decide))) et20
      refine wpl_call _ rfl rfl ht rfl rfl rfl rfl can_50 hcall ?_
      clear hcall
      rintro _ w ⟨A21, c22, m23, rfl, hpost⟩ a ht
      replace hm := (hm.pick (own' := [] ++ [.vec A15 1 2 1 1 (ints ([t14])), .vec A11 c12 2 1 m13 (ints t10.1), .kv b5 (kvS t10.2), .vec A16 c17 2 1 m18 (ints l19), .blk b1 35 [.int .i64 xs0_6, .slice As0_7 ms0_9 cs0_8]]) [0, 1, 2, 3, 4] rfl (by decide)).backL hpost
      clear hpost
      refine wpl_store_whole 5 rfl rfl ht hm rfl rfl rfl szn_35 rfl rfl (by simp [Value.oneCell']) ?_
      intro a ht w hm
      refine wpList_nil ?_
      refine blk_normal ?_
      replace hm : Ms _ _ _ _ (IntsAt A21 c22 m23 t20.2 :: _) w := hm.shutVec 0 rfl
      exact then_normal ⟨q7, by omega, l19, t10.2, t20.1, t20.2, A16, c17, m18, A21, c22, m23, H, by omega, ht.sub ⟨rfl, rfl, rfl, rfl, rfl, trivial⟩, (hm.pick [3, 2, 4] rfl (by decide)).pickφ [0, 2] rfl⟩
    · replace H := ite_no h9 H
      refine wpc_no ht rfl (decide_eq_false h9) ?_
      refine wp_exit ?_
      refine then_exit ?_
      refine then_exit ?_
      refine blk_hit ?_
      refine then_normal ?_
      refine wp_seq ?_
      refine wpr ?_
      refine wpl rfl rfl ht (ev_move ht rfl rfl) ?_
      intro a ht
      refine wpl rfl rfl ht (ev_assign ht rfl rfl) ?_
      intro a ht
      refine wpl rfl rfl ht (ev_assign ht rfl rfl) ?_
      intro a ht
      refine wpList_nil ?_
      refine then_normal ?_
      refine wp_ret ?_
      have hres := ht.res (P := Try.prog) (w := w) (rs := [.tmp 4, .tmp 5]) (vs := [.slice As0_1 ms0_3 cs0_2, .int .i64 0]) (.tmp rfl (.tmp rfl .nil))
      obtain rfl := Option.some.inj H
      exact leave ht rfl hres ⟨As0_1, cs0_2, ms0_3, rfl, ((hm.pick [0] rfl (by decide)).pickφ [] rfl).post fun _ h => h⟩

/-! ### laws_eqInt64S: function 16 (loop.example/g01362/laws.eqInt64S) -/
def laws_eqInt64S.l0 : Nat → List Int → List Int → Int → Option (Bool)
  | 0, _, _, _ => none
  | q2 + 1, a_, b, xs0_1 => if xs0_1 < (a_.length : Int) then ((getI a_ xs0_1).bind fun t4 => (getI b xs0_1).bind fun t5 => if t4 ≠ t5 then (some false) else (laws_eqInt64S.l0 q2 a_ b (w64 (xs0_1 + 1)))) else (some true)
def laws_eqInt64S.f (k : Nat) (a_ : List Int) (b : List Int) : Option (Bool) := if (a_.length : Int) ≠ (b.length : Int) then (some false) else (laws_eqInt64S.l0 k a_ b 0)
set_option maxRecDepth 100000 in
set_option maxHeartbeats 1000000 in
theorem laws_eqInt64S.calls (k : Nat) (X : List Nat) (w0 : World) (A : Option Addr) (c : Nat) (m : Nat) (A2 : Option Addr) (c2 : Nat) (m2 : Nat) (a_ : List Int) (b : List Int) (r : Bool)
    (hp : Pre X w0 [] [IntsAt A c m a_, IntsAt A2 c2 m2 b]) (H : laws_eqInt64S.f k a_ b = some r) :
    Calls Try.prog 16 [.slice A m c, .slice A2 m2 c2].toArray w0 (Ret fun v w => v = .bool r ∧ Post X (fps []) w0 [] [] w) := by
  unfold laws_eqInt64S.f at H
  refine enterM (n := 26) hp Try.func16 rfl rfl (Nat.le_of_ble_eq_true rfl) fun a w ht hm => ?_
  refine wp_seq ?_
  refine wpr ?_
  refine wpl rfl rfl ht (ev_assign ht rfl rfl) ?_
  intro a ht
  refine wpList_nil ?_
  refine then_normal ?_
  refine wp_seq ?_
  refine wp_seq ?_
  refine wpr ?_
  refine wpl rfl rfl ht (ev_move ht rfl rfl) ?_
  intro a ht
  refine wpl rfl rfl ht (ev_len_of ht rfl rfl und_22 (hm.fact (φ := IntsAt A c m a_) 0 rfl)) ?_
  intro a ht
  refine wpl rfl rfl ht (ev_move ht rfl rfl) ?_
  intro a ht
  refine wpl rfl rfl ht (ev_len_of ht rfl rfl und_22 (hm.fact (φ := IntsAt A2 c2 m2 b) 1 rfl)) ?_
  intro a ht
  refine wpl rfl rfl ht (ev_cmp ht rfl rfl rfl rfl) ?_
  intro a ht
  refine wpList_nil ?_
  refine then_normal ?_
  by_cases h1 : (a_.length : Int) ≠ (b.length : Int)
  · replace H := ite_yes h1 H
    refine wpc_yes ht rfl (decide_eq_true h1) ?_
    refine wp_seq ?_
    refine wpr ?_
    refine wpl rfl rfl ht (ev_assign ht rfl rfl) ?_
    intro a ht
    refine wpList_nil ?_
    refine then_normal ?_
    refine wp_ret ?_
    refine then_ret ?_
    have hres := ht.res (P := Try.prog) (w := w) (rs := [.tmp 4]) (vs := [.bool false]) (.tmp rfl .nil)
    obtain rfl := Option.some.inj H
    exact leave ht rfl hres ⟨rfl, ((hm.pick [] rfl (by decide)).pickφ [] rfl).post fun _ h => h⟩
  · replace H := ite_no h1 H
    refine wpc_no ht rfl (decide_eq_false h1) ?_
    refine wp_skip ?_
    refine then_normal ?_
    refine wp_seq ?_
    refine wp_seq ?_
    refine wpr ?_
    refine wpl rfl rfl ht (ev_assign ht rfl rfl) ?_
    intro a ht
    refine wpList_nil ?_
    refine then_normal ?_
    refine wp_block ?_
    refine wpLoop (fun q a w => ∃ (xs0_1 : Int), laws_eqInt64S.l0 q a_ b xs0_1 = some r ∧ q ≤ k ∧ Tm 26 [(0, .slice A m c), (1, .slice A2 m2 c2), (4, .bool false), (5, .int .i64 xs0_1)] a ∧ Ms X (fps []) w0 [] [IntsAt A c m a_, IntsAt A2 c2 m2 b] w) (k0 := k) ⟨0, H, Nat.le_refl _, ht.sub ⟨rfl, rfl, rfl, rfl, trivial⟩, (hm.pick [] rfl (by decide)).pickφ [0, 1] rfl⟩ ?_
    clear H ht hm
    intro q2 a w hJ
    obtain ⟨xs0_1, H, hqq2, ht, hm⟩ := hJ
    cases q2 with
    | zero => cases H
    | succ q2 =>
    rw [laws_eqInt64S.l0] at H
    refine wp_seq ?_
    refine wp_seq ?_
    refine wpr ?_
    refine wpl rfl rfl ht (ev_move ht rfl rfl) ?_
    intro a ht
    refine wpl rfl rfl ht (ev_move ht rfl rfl) ?_
    intro a ht
    refine wpl rfl rfl ht (ev_len_of ht rfl rfl und_22 (hm.fact (φ := IntsAt A c m a_) 0 rfl)) ?_
    intro a ht
    refine wpl rfl rfl ht (ev_cmp ht rfl rfl rfl rfl) ?_
    intro a ht
    refine wpList_nil ?_
    refine then_normal ?_
    by_cases h3 : xs0_1 < (a_.length : Int)
    · replace H := ite_yes h3 H
      refine wpc_yes ht rfl (decide_eq_true h3) ?_
      refine wp_skip ?_
      refine then_normal ?_
      refine wp_seq ?_
      refine wp_block ?_
      refine wp_seq ?_
      refine wph_begin (fun w => Ms X (fps []) w0 [] [IntsAt A c m a_, IntsAt A2 c2 m2 b] w) mixed ?_
      replace hm := hm.drew
      have hS : Ms X (fps []) w0 [] [IntsAt A c m a_, IntsAt A2 c2 m2 b] w.drew := (hm.pick [] rfl (by decide)).pickφ [0, 1] rfl
      generalize w.drew = w at hm hS ⊢
      refine wph_take (i := 0) rfl (by kernel_rfl) (by kernel_rfl) (by kernel_rfl) (fun _ _ _ h => h) rfl ht hS (wanted_plain rfl) (fun w hm => ev_move ht rfl rfl) ?_
      intro a ht
      refine wph_take (i := 1) rfl (by kernel_rfl) (by kernel_rfl) (by kernel_rfl) (fun _ _ _ h => h) rfl ht hS (wanted_plain rfl) (fun w hm => ev_move ht rfl rfl) ?_
      intro a ht
      obtain ⟨t4, et4, H⟩ := bind_get H
      refine wph_take (i := 2) rfl (by kernel_rfl) (by kernel_rfl) (by kernel_rfl) (fun _ _ _ h => h) rfl ht hS (wanted_plain rfl) (fun w hm => ev_index_ints ht rfl rfl rfl so_22 (hm.fact (φ := IntsAt A c m a_) 0 rfl) et4) ?_
      intro a ht
      refine wph_take (i := 3) rfl (by kernel_rfl) (by kernel_rfl) (by kernel_rfl) (fun _ _ _ h => h) rfl ht hS (wanted_plain rfl) (fun w hm => ev_load ht rfl rfl sc_2 (RowAt.cell (hm.fact (φ := IntsAt A c m a_) 0 rfl) (ints_get et4) rfl)) ?_
      intro a ht
      refine wph_take (i := 4) rfl (by kernel_rfl) (by kernel_rfl) (by kernel_rfl) (fun _ _ _ h => h) rfl ht hS (wanted_plain rfl) (fun w hm => ev_move ht rfl rfl) ?_
      intro a ht
      refine wph_take (i := 5) rfl (by kernel_rfl) (by kernel_rfl) (by kernel_rfl) (fun _ _ _ h => h) rfl ht hS (wanted_plain rfl) (fun w hm => ev_move ht rfl rfl) ?_
      intro a ht
      obtain ⟨t5, et5, H⟩ := bind_get H
      refine wph_take (i := 6) rfl (by kernel_rfl) (by kernel_rfl) (by kernel_rfl) (fun _ _ _ h => h) rfl ht hS (wanted_plain rfl) (fun w hm => ev_index_ints ht rfl rfl rfl so_22 (hm.fact (φ := IntsAt A2 c2 m2 b) 1 rfl) et5) ?_
      intro a ht
      refine wph_take (i := 7) rfl (by kernel_rfl) (by kernel_rfl) (by kernel_rfl) (fun _ _ _ h => h) rfl ht hS (wanted_plain rfl) (fun w hm => ev_load ht rfl rfl sc_2 (RowAt.cell (hm.fact (φ := IntsAt A2 c2 m2 b) 1 rfl) (ints_get et5) rfl)) ?_
      intro a ht
      refine wph_take (i := 8) rfl (by kernel_rfl) (by kernel_rfl) (by kernel_rfl) (fun _ _ _ h => h) rfl ht hS (wanted_plain rfl) (fun w hm => ev_cmp ht rfl rfl rfl rfl) ?_
      intro a ht
      refine wph_done (by kernel_rfl) ?_
      refine then_normal ?_
      by_cases h6 : t4 ≠ t5
      · replace H := ite_yes h6 H
        refine wpc_yes ht rfl (decide_eq_true h6) ?_
        refine wp_seq ?_
        refine wpr ?_
        refine wpl rfl rfl ht (ev_assign ht rfl rfl) ?_
        intro a ht
        refine wpList_nil ?_
        refine then_normal ?_
        refine wp_ret ?_
        refine blk_ret ?_
        refine then_ret ?_
        refine then_ret ?_
        refine blk_ret ?_
        refine then_ret ?_
        have hres := ht.res (P := Try.prog) (w := w) (rs := [.tmp 4]) (vs := [.bool false]) (.tmp rfl .nil)
        obtain rfl := Option.some.inj H
        exact leave ht rfl hres ⟨rfl, ((hm.pick [] rfl (by decide)).pickφ [] rfl).post fun _ h => h⟩
      · replace H := ite_no h6 H
        refine wpc_no ht rfl (decide_eq_false h6) ?_
        refine wp_skip ?_
        refine blk_normal ?_
        refine then_normal ?_
        refine wpr ?_
        refine wpl rfl rfl ht (ev_move ht rfl rfl) ?_
        intro a ht
        refine wpl rfl rfl ht (ev_arith ht rfl rfl rfl rfl) ?_
        intro a ht
        refine wpl rfl rfl ht (ev_assign ht rfl rfl) ?_
        intro a ht
        refine wpList_nil ?_
        exact then_normal ⟨q2, by omega, (w64 (xs0_1 + 1)), H, by omega, ht.sub ⟨rfl, rfl, rfl, rfl, trivial⟩, (hm.pick [] rfl (by decide)).pickφ [0, 1] rfl⟩
    · replace H := ite_no h3 H
      refine wpc_no ht rfl (decide_eq_false h3) ?_
      refine wp_exit ?_
      refine then_exit ?_
      refine then_exit ?_
      refine blk_hit ?_
      refine then_normal ?_
      refine wp_seq ?_
      refine wpr ?_
      refine wpl rfl rfl ht (ev_assign ht rfl rfl) ?_
      intro a ht
      refine wpList_nil ?_
      refine then_normal ?_
      refine wp_ret ?_
      have hres := ht.res (P := Try.prog) (w := w) (rs := [.tmp 4]) (vs := [.bool true]) (.tmp rfl .nil)
      obtain rfl := Option.some.inj H
      exact leave ht rfl hres ⟨rfl, ((hm.pick [] rfl (by decide)).pickφ [] rfl).post fun _ h => h⟩

/-! ### laws_markInt64S: function 19 (loop.example/g01362/laws.markInt64S) -/
def laws_markInt64S.l0 : Nat → List Int → Int → Int → Option (Int × List Int)
  | 0, _, _, _ => none
  | q1 + 1, ls0_1, xs0_2, xs0_3 => if xs0_3 < (ls0_1.length : Int) then ((getI ls0_1 xs0_3).bind fun t3 => laws_markInt64S.l0 q1 (ls0_1.set xs0_3.toNat xs0_2) (w64 (xs0_2 + 1)) (w64 (xs0_3 + 1))) else (some (xs0_2, ls0_1))
def laws_markInt64S.f (k : Nat) (a_ : List Int) (k_ : Int) : Option (Int × List Int) := laws_markInt64S.l0 k a_ k_ 0
set_option maxRecDepth 100000 in
set_option maxHeartbeats 1000000 in
theorem laws_markInt64S.calls (k : Nat) (X : List Nat) (w0 : World) (A : Option Addr) (c : Nat) (m : Nat) (a_ : List Int) (k_ : Int) (r : Int × List Int)
    (hp : Pre X w0 [.vec A c 2 1 m (ints a_)] []) (H : laws_markInt64S.f k a_ k_ = some r) :
    Calls Try.prog 19 [.slice A m c, .int .i64 k_].toArray w0 (Ret fun v w => v = .int .i64 r.1 ∧ Post X (fps [.vec A c 2 1 m (ints a_)]) w0 [.vec A c 2 1 m (ints r.2)] [] w) := by
  unfold laws_markInt64S.f at H
  refine enterM (n := 19) hp Try.func19 rfl rfl (Nat.le_of_ble_eq_true rfl) fun a w ht hm => ?_
  refine wp_seq ?_
  refine wpr ?_
  refine wpl rfl rfl ht (ev_assign ht rfl rfl) ?_
  intro a ht
  refine wpList_nil ?_
  refine then_normal ?_
  refine wp_seq ?_
  refine wp_seq ?_
  refine wpr ?_
  refine wpl rfl rfl ht (ev_assign ht rfl rfl) ?_
  intro a ht
  refine wpList_nil ?_
  refine then_normal ?_
  refine wp_block ?_
  refine wpLoop (fun q a w => ∃ (ls0_1 : List Int) (xs0_2 : Int) (xs0_3 : Int), laws_markInt64S.l0 q ls0_1 xs0_2 xs0_3 = some r ∧ q ≤ k ∧ Tm 19 [(0, .slice A m c), (4, .int .i64 0), (1, .int .i64 xs0_2), (5, .int .i64 xs0_3)] a ∧ Ms X (fps [.vec A c 2 1 m (ints a_)]) w0 [.vec A c 2 1 m (ints ls0_1)] [] w) (k0 := k) ⟨a_, k_, 0, H, Nat.le_refl _, ht.sub ⟨rfl, rfl, rfl, rfl, trivial⟩, (hm.pick [0] rfl (by decide)).pickφ [] rfl⟩ ?_
  clear H ht hm
  intro q1 a w hJ
  obtain ⟨ls0_1, xs0_2, xs0_3, H, hqq1, ht, hm⟩ := hJ
  cases q1 with
  | zero => cases H
  | succ q1 =>
  rw [laws_markInt64S.l0] at H
  refine wp_seq ?_
  refine wp_seq ?_
  refine wpr ?_
  refine wpl rfl rfl ht (ev_move ht rfl rfl) ?_
  intro a ht
  refine wpl rfl rfl ht (ev_move ht rfl rfl) ?_
  intro a ht
  refine wpl rfl rfl ht (ev_len_of ht rfl rfl und_22 (hm.vec_row 0 rfl)) ?_
  intro a ht
  refine wpl rfl rfl ht (ev_cmp ht rfl rfl rfl rfl) ?_
  intro a ht
  refine wpList_nil ?_
  refine then_normal ?_
  by_cases h2 : xs0_3 < (ls0_1.length : Int)
  · replace H := ite_yes h2 H
    refine wpc_yes ht rfl (decide_eq_true h2) ?_
    refine wp_skip ?_
    refine then_normal ?_
    refine wp_seq ?_
    refine wp_block ?_
    refine wp_seq ?_
    refine wpr ?_
    refine wpl rfl rfl ht (ev_move ht rfl rfl) ?_
    intro a ht
    refine wpl rfl rfl ht (ev_move ht rfl rfl) ?_
    intro a ht
    refine wpl rfl rfl ht (ev_move ht rfl rfl) ?_
    intro a ht
    obtain ⟨t3, et3, H⟩ := bind_get H
    refine wpl rfl rfl ht (ev_index_ints ht rfl rfl rfl so_22 (hm.vec_row 0 rfl) et3) ?_
    intro a ht
    refine wpl_store_int 0 rfl rfl ht hm rfl rfl rfl sz1_2 rfl et3 ?_
    intro a ht w hm
    refine wpList_nil ?_
    refine then_normal ?_
    refine wpr ?_
    refine wpl rfl rfl ht (ev_move ht rfl rfl) ?_
    intro a ht
    refine wpl rfl rfl ht (ev_arith ht rfl rfl rfl rfl) ?_
    intro a ht
    refine wpl rfl rfl ht (ev_assign ht rfl rfl) ?_
    intro a ht
    refine wpList_nil ?_
    refine blk_normal ?_
    refine then_normal ?_
    refine wpr ?_
    refine wpl rfl rfl ht (ev_move ht rfl rfl) ?_
    intro a ht
    refine wpl rfl rfl ht (ev_arith ht rfl rfl rfl rfl) ?_
    intro a ht
    refine wpl rfl rfl ht (ev_assign ht rfl rfl) ?_
    intro a ht
    refine wpList_nil ?_
    exact then_normal ⟨q1, by omega, (ls0_1.set xs0_3.toNat xs0_2), (w64 (xs0_2 + 1)), (w64 (xs0_3 + 1)), H, by omega, ht.sub ⟨rfl, rfl, rfl, rfl, trivial⟩, (hm.pick [0] rfl (by decide)).pickφ [] rfl⟩
  · replace H := ite_no h2 H
    refine wpc_no ht rfl (decide_eq_false h2) ?_
    refine wp_exit ?_
    refine then_exit ?_
    refine then_exit ?_
    refine blk_hit ?_
    refine then_normal ?_
    refine wp_seq ?_
    refine wpr ?_
    refine wpl rfl rfl ht (ev_move ht rfl rfl) ?_
    intro a ht
    refine wpl rfl rfl ht (ev_assign ht rfl rfl) ?_
    intro a ht
    refine wpList_nil ?_
    refine then_normal ?_
    refine wp_ret ?_
    have hres := ht.res (P := Try.prog) (w := w) (rs := [.tmp 4]) (vs := [.int .i64 xs0_2]) (.tmp rfl .nil)
    obtain rfl := Option.some.inj H
    exact leave ht rfl hres ⟨rfl, ((hm.pick [0] rfl (by decide)).pickφ [] rfl).post fun _ h => h⟩

/-! ### laws_heldInt64S: function 20 (loop.example/g01362/laws.heldInt64S) -/
def laws_heldInt64S.l0 : Nat → List Int → Int → Int → Option (Int)
  | 0, _, _, _ => none
  | q1 + 1, a_, xs0_1, xs0_2 => if xs0_2 < (a_.length : Int) then ((getI a_ xs0_2).bind fun t3 => if t3 ≠ xs0_1 then (some (-1)) else (laws_heldInt64S.l0 q1 a_ (w64 (xs0_1 + 1)) (w64 (xs0_2 + 1)))) else (some xs0_1)
def laws_heldInt64S.f (k : Nat) (a_ : List Int) (k_ : Int) : Option (Int) := laws_heldInt64S.l0 k a_ k_ 0
set_option maxRecDepth 100000 in
set_option maxHeartbeats 1000000 in
theorem laws_heldInt64S.calls (k : Nat) (X : List Nat) (w0 : World) (A : Option Addr) (c : Nat) (m : Nat) (a_ : List Int) (k_ : Int) (r : Int)
    (hp : Pre X w0 [] [IntsAt A c m a_]) (H : laws_heldInt64S.f k a_ k_ = some r) :
    Calls Try.prog 20 [.slice A m c, .int .i64 k_].toArray w0 (Ret fun v w => v = .int .i64 r ∧ Post X (fps []) w0 [] [] w) := by
  unfold laws_heldInt64S.f at H
  refine enterM (n := 21) hp Try.func20 rfl rfl (Nat.le_of_ble_eq_true rfl) fun a w ht hm => ?_
  refine wp_seq ?_
  refine wpr ?_
  refine wpl rfl rfl ht (ev_assign ht rfl rfl) ?_
  intro a ht
  refine wpList_nil ?_
  refine then_normal ?_
  refine wp_seq ?_
  refine wp_seq ?_
  refine wpr ?_
  refine wpl rfl rfl ht (ev_assign ht rfl rfl) ?_
  intro a ht
  refine wpList_nil ?_
  refine then_normal ?_
  refine wp_block ?_
  refine wpLoop (fun q a w => ∃ (xs0_1 : Int) (xs0_2 : Int), laws_heldInt64S.l0 q a_ xs0_1 xs0_2 = some r ∧ q ≤ k ∧ Tm 21 [(0, .slice A m c), (4, .int .i64 0), (1, .int .i64 xs0_1), (5, .int .i64 xs0_2)] a ∧ Ms X (fps []) w0 [] [IntsAt A c m a_] w) (k0 := k) ⟨k_, 0, H, Nat.le_refl _, ht.sub ⟨rfl, rfl, rfl, rfl, trivial⟩, (hm.pick [] rfl (by decide)).pickφ [0] rfl⟩ ?_
  clear H ht hm
  intro q1 a w hJ
  obtain ⟨xs0_1, xs0_2, H, hqq1, ht, hm⟩ := hJ
  cases q1 with
  | zero => cases H
  | succ q1 =>
  rw [laws_heldInt64S.l0] at H
  refine wp_seq ?_
  refine wp_seq ?_
  refine wpr ?_
  refine wpl rfl rfl ht (ev_move ht rfl rfl) ?_
  intro a ht
  refine wpl rfl rfl ht (ev_move ht rfl rfl) ?_
  intro a ht
  refine wpl rfl rfl ht (ev_len_of ht rfl rfl und_22 (hm.fact (φ := IntsAt A c m a_) 0 rfl)) ?_
  intro a ht
  refine wpl rfl rfl ht (ev_cmp ht rfl rfl rfl rfl) ?_
  intro a ht
  refine wpList_nil ?_
  refine then_normal ?_
  by_cases h2 : xs0_2 < (a_.length : Int)
  · replace H := ite_yes h2 H
    refine wpc_yes ht rfl (decide_eq_true h2) ?_
    refine wp_skip ?_
    refine then_normal ?_
    refine wp_seq ?_
    refine wp_block ?_
    refine wp_seq ?_
    refine wp_seq ?_
    refine wpr ?_
    refine wpl rfl rfl ht (ev_move ht rfl rfl) ?_
    intro a ht
    refine wpl rfl rfl ht (ev_move ht rfl rfl) ?_
    intro a ht
    obtain ⟨t3, et3, H⟩ := bind_get H
    refine wpl rfl rfl ht (ev_index_ints ht rfl rfl rfl so_22 (hm.fact (φ := IntsAt A c m a_) 0 rfl) et3) ?_
    intro a ht
    refine wpl rfl rfl ht (ev_load ht rfl rfl sc_2 (RowAt.cell (hm.fact (φ := IntsAt A c m a_) 0 rfl) (ints_get et3) rfl)) ?_
    intro a ht
    refine wpl rfl rfl ht (ev_move ht rfl rfl) ?_
    intro a ht
    refine wpl rfl rfl ht (ev_cmp ht rfl rfl rfl rfl) ?_
    intro a ht
    refine wpList_nil ?_
    refine then_normal ?_
    by_cases h4 : t3 ≠ xs0_1
    · replace H := ite_yes h4 H
      refine wpc_yes ht rfl (decide_eq_true h4) ?_
      refine wp_seq ?_
      refine wpr ?_
      refine wpl rfl rfl ht (ev_assign ht rfl rfl) ?_
      intro a ht
      refine wpList_nil ?_
      refine then_normal ?_
      refine wp_ret ?_
      refine then_ret ?_
      refine blk_ret ?_
      refine then_ret ?_
      refine then_ret ?_
      refine blk_ret ?_
      refine then_ret ?_
      have hres := ht.res (P := Try.prog) (w := w) (rs := [.tmp 4]) (vs := [.int .i64 (-1)]) (.tmp rfl .nil)
      obtain rfl := Option.some.inj H
      exact leave ht rfl hres ⟨rfl, ((hm.pick [] rfl (by decide)).pickφ [] rfl).post fun _ h => h⟩
    · replace H := ite_no h4 H
      refine wpc_no ht rfl (decide_eq_false h4) ?_
      refine wp_skip ?_
      refine then_normal ?_
      refine wpr ?_
      refine wpl rfl rfl ht (ev_move ht rfl rfl) ?_
      intro a ht
      refine wpl rfl rfl ht (ev_arith ht rfl rfl rfl rfl) ?_
      intro a ht
      refine wpl rfl rfl ht (ev_assign ht rfl rfl) ?_
      intro a ht
      refine wpList_nil ?_
      refine blk_normal ?_
      refine then_normal ?_
      refine wpr ?_
      refine wpl rfl rfl ht (ev_move ht rfl rfl) ?_
      intro a ht
      refine wpl rfl rfl ht (ev_arith ht rfl rfl rfl rfl) ?_
      intro a ht
      refine wpl rfl rfl ht (ev_assign ht rfl rfl) ?_
      intro a ht
      refine wpList_nil ?_
      exact then_normal ⟨q1, by omega, (w64 (xs0_1 + 1)), (w64 (xs0_2 + 1)), H, by omega, ht.sub ⟨rfl, rfl, rfl, rfl, trivial⟩, (hm.pick [] rfl (by decide)).pickφ [0] rfl⟩
  · replace H := ite_no h2 H
    refine wpc_no ht rfl (decide_eq_false h2) ?_
    refine wp_exit ?_
    refine then_exit ?_
    refine then_exit ?_
    refine blk_hit ?_
    refine then_normal ?_
    refine wp_seq ?_
    refine wpr ?_
    refine wpl rfl rfl ht (ev_move ht rfl rfl) ?_
    intro a ht
    refine wpl rfl rfl ht (ev_assign ht rfl rfl) ?_
    intro a ht
    refine wpList_nil ?_
    refine then_normal ?_
    refine wp_ret ?_
    have hres := ht.res (P := Try.prog) (w := w) (rs := [.tmp 4]) (vs := [.int .i64 xs0_1]) (.tmp rfl .nil)
    obtain rfl := Option.some.inj H
    exact leave ht rfl hres ⟨rfl, ((hm.pick [] rfl (by decide)).pickφ [] rfl).post fun _ h => h⟩

end Go.Proofs.Ytfbdcidedjocdaa.G
