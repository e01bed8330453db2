/- What each Go function computes, as a Lean function, and the proof that it does: written by a program of this session (wip/gen), part 4. -/
import Derived.Test.YtbgniopmmankdaaGFnExactPointOrbits3
namespace Go.Proofs.Ytbgniopmmankdaa.G
open Go Go.RowKit Go.Proofs.Ytbgniopmmankdaa.K
set_option linter.unusedVariables false
set_option linter.unusedSimpArgs false

/-! ### spec_l06Moves: function 36 (loop.example/g01362/spec.l06Moves) -/
def spec_l06Moves.l0 : Nat → Col → Int → Int → List Int → List Int → Int → Option (Bool)
  | 0, _, _, _, _, _, _ => none
  | q4 + 1, x, p, q_, ls0_4, ls0_8, xs0_9 => if xs0_9 < x.p then ((push ls0_8 xs0_9).bind fun l10 => (push ls0_4 xs0_9).bind fun l15 => spec_l06Moves.l0 q4 x p q_ l15 l10 (w64 (xs0_9 + 1))) else ((getI ls0_8 0).bind fun t16 => (getI (ls0_8.set (Int.toNat 0) p) p).bind fun t17 => (getI ls0_4 0).bind fun t18 => (getI (ls0_4.set (Int.toNat 0) q_) q_).bind fun t19 => (spec_l01Renamed.f q4 x ((ls0_8.set (Int.toNat 0) p).set p.toNat 0)).bind fun t2520 => (spec_l01Renamed.f q4 x ((ls0_4.set (Int.toNat 0) q_).set q_.toNat 0)).bind fun t5520 => (spec_l06Types.f q4 t2520).bind fun t14520 => (spec_l06Types.f q4 t5520).bind fun t16520 => (getI t14520 0).bind fun t21020 => (getI t16520 0).bind fun t21021 => if t21020 = t21021 then ((spec_l06Go.f q4 t2520 t5520 t14520 t16520 1 0 ([]) ([0]) 1).bind fun t21025 => some (decide (t21025.2.2.2.2.2.1 > 0))) else (some false))
def spec_l06Moves.f (k : Nat) (x : Col) (p : Int) (q_ : Int) : Option (Bool) := spec_l06Moves.l0 k x p q_ ([] : List Int) ([] : List Int) 0
set_option maxRecDepth 100000 in
set_option maxHeartbeats 20000000 in
theorem spec_l06Moves.calls (k : Nat) (X : List Nat) (w0 : World)  (x : Col) (p : Int) (q_ : Int) (r : Bool)
    (hp : Pre X w0 [] []) (H : spec_l06Moves.f k x p q_ = some r) :
    Calls Try.prog 36 [.agg (Col.cells x).toArray, .int .i64 p, .int .i64 q_].toArray w0 (Ret fun v w => v = .bool r ∧ Post X (fps []) w0 [] [] w) := by
  unfold spec_l06Moves.f at H
  refine enterM (n := 76) hp Try.func36 rfl rfl (Nat.le_of_ble_eq_true rfl) fun a w ht hm => ?_
  refine wp_seq ?_
  refine wpr ?_
  refine wpl_box rfl rfl ht hm rfl rfl rfl ?_
  intro b1 a ht w hm
  refine wpl rfl rfl ht (ev_assign ht rfl rfl) ?_
  intro a ht
  refine wpList_nil ?_
  refine then_normal ?_
  refine wp_seq ?_
  refine wpr ?_
  refine wpl_build_ints (l := ([] : List Int)) rfl rfl ht hm rfl und_43 zo_2 sz1_2 (by decide) rfl rfl rfl ?_
  intro A2 a ht w hm
  refine wpl_build_ints (l := ([] : List Int)) rfl rfl ht hm rfl und_43 zo_2 sz1_2 (by decide) rfl rfl rfl ?_
  intro A3 a ht w hm
  refine wpl rfl rfl ht (ev_assign ht rfl rfl) ?_
  intro a ht
  refine wpl rfl rfl ht (ev_assign ht rfl rfl) ?_
  intro a ht
  refine wpList_nil ?_
  refine then_normal ?_
  refine wp_seq ?_
  refine wp_seq ?_
  refine wpr ?_
  refine wpl rfl rfl ht (ev_assign ht rfl rfl) ?_
  intro a ht
  refine wpList_nil ?_
  refine then_normal ?_
  refine wp_block ?_
  refine wpLoop (fun q a w => ∃ (ls0_4 : List Int) (ls0_8 : List Int) (xs0_9 : Int) (As0_1 : Option Addr) (cs0_2 : Nat) (ms0_3 : Nat) (As0_5 : Option Addr) (cs0_6 : Nat) (ms0_7 : Nat), spec_l06Moves.l0 q x p q_ ls0_4 ls0_8 xs0_9 = some r ∧ q ≤ k ∧ Tm 76 [(1, .int .i64 p), (2, .int .i64 q_), (3, .pointer (some ⟨b1, 0, none⟩)), (6, .bool false), (7, .slice As0_5 ms0_7 cs0_6), (8, .slice As0_1 ms0_3 cs0_2), (9, .int .i64 xs0_9)] a ∧ Ms X (fps []) w0 [.vec As0_1 cs0_2 2 1 ms0_3 (ints ls0_4), .vec As0_5 cs0_6 2 1 ms0_7 (ints ls0_8), .blk b1 27 (Col.cells x)] [] w) (k0 := k) ⟨([] : List Int), ([] : List Int), 0, A3, 0, 0, A2, 0, 0, H, Nat.le_refl _, ht.sub ⟨rfl, rfl, rfl, rfl, rfl, rfl, rfl, trivial⟩, (hm.pick [0, 1, 2] rfl (by decide)).pickφ [] rfl⟩ ?_
  clear H ht hm
  intro q4 a w hJ
  obtain ⟨ls0_4, ls0_8, xs0_9, As0_1, cs0_2, ms0_3, As0_5, cs0_6, ms0_7, H, hqq4, ht, hm⟩ := hJ
  cases q4 with
  | zero => cases H
  | succ q4 =>
  rw [spec_l06Moves.l0] at H
  refine wp_seq ?_
  refine wp_seq ?_
  refine wpr ?_
  refine wpl rfl rfl ht (ev_move ht rfl rfl) ?_
  intro a ht
  refine wpl rfl rfl ht (ev_fieldAddr ht rfl rfl fo_27_0) ?_
  intro a ht
  refine wpl rfl rfl ht (ev_load ht rfl rfl sc_2 (hm.blk_cell 2 rfl rfl)) ?_
  intro a ht
  refine wpl rfl rfl ht (ev_cmp ht rfl rfl rfl rfl) ?_
  intro a ht
  refine wpList_nil ?_
  refine then_normal ?_
  by_cases h5 : xs0_9 < x.p
  · replace H := ite_yes h5 H
    refine wpc_yes ht rfl (decide_eq_true h5) ?_
    refine wp_skip ?_
    refine then_normal ?_
    refine wp_seq ?_
    refine wp_block ?_
    refine wp_seq ?_
    refine wpr ?_
    refine wpl rfl rfl ht (ev_move ht rfl rfl) ?_
    intro a ht
    refine wpl rfl rfl ht (ev_move ht rfl rfl) ?_
    intro a ht
    refine wpl_build_ints (l := [xs0_9]) rfl rfl ht hm rfl und_43 zo_2 sz1_2 (by decide) rfl rfl rfl ?_
    intro A6 a ht w hm
    obtain ⟨l10, el10, H⟩ := bind_get H
    refine wpl_push (r := l10) 2 0 rfl rfl ht hm rfl ap_43 rfl rfl rfl rfl el10 ?_
    intro A7 c8 m9 a ht w hm
    refine wpl rfl rfl ht (ev_assign ht rfl rfl) ?_
    intro a ht
    refine wpList_nil ?_
    refine then_normal ?_
    refine wpr ?_
    refine wpl rfl rfl ht (ev_move ht rfl rfl) ?_
    intro a ht
    refine wpl rfl rfl ht (ev_move ht rfl rfl) ?_
    intro a ht
    refine wpl_build_ints (l := [xs0_9]) rfl rfl ht hm rfl und_43 zo_2 sz1_2 (by decide) rfl rfl rfl ?_
    intro A11 a ht w hm
    obtain ⟨l15, el15, H⟩ := bind_get H
    refine wpl_push (r := l15) 2 0 rfl rfl ht hm rfl ap_43 rfl rfl rfl rfl el15 ?_
    intro A12 c13 m14 a ht w hm
    refine wpl rfl rfl ht (ev_assign ht rfl rfl) ?_
    intro a ht
    refine wpList_nil ?_
    refine blk_normal ?_
    refine then_normal ?_
    refine wpr ?_
    refine wpl rfl rfl ht (ev_move ht rfl rfl) ?_
    intro a ht
    refine wpl rfl rfl ht (ev_arith ht rfl rfl rfl rfl) ?_
    intro a ht
    refine wpl rfl rfl ht (ev_assign ht rfl rfl) ?_
    intro a ht
    refine wpList_nil ?_
    exact then_normal ⟨q4, by omega, l15, l10, (w64 (xs0_9 + 1)), A12, c13, m14, A7, c8, m9, H, by omega, ht.sub ⟨rfl, rfl, rfl, rfl, rfl, rfl, rfl, trivial⟩, (hm.pick [2, 3, 4] rfl (by decide)).pickφ [] rfl⟩
  · replace H := ite_no h5 H
    refine wpc_no ht rfl (decide_eq_false h5) ?_
    refine wp_exit ?_
    refine then_exit ?_
    refine then_exit ?_
    refine blk_hit ?_
    refine then_normal ?_
    refine wp_seq ?_
    refine wpr ?_
    refine wpl rfl rfl ht (ev_move ht rfl rfl) ?_
    intro a ht
    refine wpl rfl rfl ht (ev_move ht rfl rfl) ?_
    intro a ht
    obtain ⟨t16, et16, H⟩ := bind_get H
    refine wpl rfl rfl ht (ev_index_ints ht rfl rfl rfl so_43 (hm.vec_row 1 rfl) et16) ?_
    intro a ht
    refine wpl_store_int 1 rfl rfl ht hm rfl rfl rfl sz1_2 rfl et16 ?_
    intro a ht w hm
    refine wpList_nil ?_
    refine then_normal ?_
    refine wp_seq ?_
    refine wpr ?_
    refine wpl rfl rfl ht (ev_move ht rfl rfl) ?_
    intro a ht
    refine wpl rfl rfl ht (ev_move ht rfl rfl) ?_
    intro a ht
    obtain ⟨t17, et17, H⟩ := bind_get H
    refine wpl rfl rfl ht (ev_index_ints ht rfl rfl rfl so_43 (hm.vec_row 1 rfl) et17) ?_
    intro a ht
    refine wpl_store_int 1 rfl rfl ht hm rfl rfl rfl sz1_2 rfl et17 ?_
    intro a ht w hm
    refine wpList_nil ?_
    refine then_normal ?_
    refine wp_seq ?_
    refine wpr ?_
    refine wpl rfl rfl ht (ev_move ht rfl rfl) ?_
    intro a ht
    refine wpl rfl rfl ht (ev_move ht rfl rfl) ?_
    intro a ht
    obtain ⟨t18, et18, H⟩ := bind_get H
    refine wpl rfl rfl ht (ev_index_ints ht rfl rfl rfl so_43 (hm.vec_row 0 rfl) et18) ?_
    intro a ht
    refine wpl_store_int 0 rfl rfl ht hm rfl rfl rfl sz1_2 rfl et18 ?_
    intro a ht w hm
    refine wpList_nil ?_
    refine then_normal ?_
    refine wp_seq ?_
    refine wpr ?_
    refine wpl rfl rfl ht (ev_move ht rfl rfl) ?_
    intro a ht
    refine wpl rfl rfl ht (ev_move ht rfl rfl) ?_
    intro a ht
    obtain ⟨t19, et19, H⟩ := bind_get H
    refine wpl rfl rfl ht (ev_index_ints ht rfl rfl rfl so_43 (hm.vec_row 0 rfl) et19) ?_
    intro a ht
    refine wpl_store_int 0 rfl rfl ht hm rfl rfl rfl sz1_2 rfl et19 ?_
    intro a ht w hm
    refine wpList_nil ?_
    refine then_normal ?_
    refine wp_seq ?_
    refine wph_begin (fun w => Ms X (fps []) w0 [.vec As0_1 cs0_2 2 1 ms0_3 (ints ((ls0_4.set (Int.toNat 0) q_).set q_.toNat 0)), .vec As0_5 cs0_6 2 1 ms0_7 (ints ((ls0_8.set (Int.toNat 0) p).set p.toNat 0)), .blk b1 27 (Col.cells x)] [] w) mixed ?_
    replace hm := hm.drew
    have hS : Ms X (fps []) w0 [.vec As0_1 cs0_2 2 1 ms0_3 (ints ((ls0_4.set (Int.toNat 0) q_).set q_.toNat 0)), .vec As0_5 cs0_6 2 1 ms0_7 (ints ((ls0_8.set (Int.toNat 0) p).set p.toNat 0)), .blk b1 27 (Col.cells x)] [] w.drew := (hm.pick [0, 1, 2] rfl (by decide)).pickφ [] rfl
    generalize w.drew = w at hm hS ⊢
    refine wph_take (i := 0) rfl (by kernel_rfl) (by kernel_rfl) (by kernel_rfl) (fun _ _ _ h => h) rfl ht hS (wanted_plain rfl) (fun w hm => ev_load_agg ht rfl rfl (ag_27.trans (by first | rw [Col.length_cells] | rfl)) (hm.blk_all 2 rfl)) ?_
    intro a ht
    refine wph_take (i := 1) rfl (by kernel_rfl) (by kernel_rfl) (by kernel_rfl) (fun _ _ _ h => h) rfl ht hS (wanted_plain rfl) (fun w hm => ev_move ht rfl rfl) ?_
    intro a ht
    refine wph_take (i := 3) rfl (by kernel_rfl) (by kernel_rfl) (by kernel_rfl) (fun _ _ _ h => h) rfl ht hS (wanted_plain rfl) (fun w hm => ev_load_agg ht rfl rfl (ag_27.trans (by first | rw [Col.length_cells] | rfl)) (hm.blk_all 2 rfl)) ?_
    intro a ht
    refine wph_take (i := 4) rfl (by kernel_rfl) (by kernel_rfl) (by kernel_rfl) (fun _ _ _ h => h) rfl ht hS (wanted_plain rfl) (fun w hm => ev_move ht rfl rfl) ?_
    intro a ht
    refine wph_three (i := 2) (j := 6) (l := 7) (by kernel_rfl) ?_ ?_ ?_ 
    · refine wph_step rfl ?_
      obtain ⟨t2520, et2520, H⟩ := bind_get H
      have hcall := spec_l01Renamed.calls q4 _ _ As0_5 cs0_6 ms0_7 x ((ls0_8.set (Int.toNat 0) p).set p.toNat 0) _ ((fun (hq : Ms _ _ _ ([] ++ [.vec As0_1 cs0_2 2 1 ms0_3 (ints ((ls0_4.set (Int.toNat 0) q_).set q_.toNat 0)), .vec As0_5 cs0_6 2 1 ms0_7 (ints ((ls0_8.set (Int.toNat 0) p).set p.toNat 0)), .blk b1 27 (Col.cells x)]) _ _) => hq.lend (φp := [IntsAt As0_5 cs0_6 ms0_7 ((ls0_8.set (Int.toNat 0) p).set p.toNat 0)]) (allRO_cons (hq.lendVec 1 rfl) (allRO_nil))) (hm.pick (own' := [] ++ [.vec As0_1 cs0_2 2 1 ms0_3 (ints ((ls0_4.set (Int.toNat 0) q_).set q_.toNat 0)), .vec As0_5 cs0_6 2 1 ms0_7 (ints ((ls0_8.set (Int.toNat 0) p).set p.toNat 0)), .blk b1 27 (Col.cells x)]) [0, 1, 2] rfl (by decide))) et2520
      refine wpl_call _ rfl rfl ht rfl rfl rfl rfl can_28 hcall ?_
      clear hcall
      rintro _ w ⟨rfl, hpost⟩ a ht
      replace hm := (hm.pick (own' := [] ++ [.vec As0_1 cs0_2 2 1 ms0_3 (ints ((ls0_4.set (Int.toNat 0) q_).set q_.toNat 0)), .vec As0_5 cs0_6 2 1 ms0_7 (ints ((ls0_8.set (Int.toNat 0) p).set p.toNat 0)), .blk b1 27 (Col.cells x)]) [0, 1, 2] rfl (by decide)).backL hpost
      clear hpost
      have hS : Ms X (fps []) w0 [.vec As0_1 cs0_2 2 1 ms0_3 (ints ((ls0_4.set (Int.toNat 0) q_).set q_.toNat 0)), .vec As0_5 cs0_6 2 1 ms0_7 (ints ((ls0_8.set (Int.toNat 0) p).set p.toNat 0)), .blk b1 27 (Col.cells x)] [] w := (hm.pick [0, 1, 2] rfl (by decide)).pickφ [] rfl
      refine wpList_nil (qn ⟨hS, ?_⟩)
      refine wph_three (i := 5) (j := 6) (l := 7) (by kernel_rfl) ?_ ?_ ?_ 
      · refine wph_step rfl ?_
        obtain ⟨t5520, et5520, H⟩ := bind_get H
        have hcall := spec_l01Renamed.calls q4 _ _ As0_1 cs0_2 ms0_3 x ((ls0_4.set (Int.toNat 0) q_).set q_.toNat 0) _ ((fun (hq : Ms _ _ _ ([] ++ [.vec As0_1 cs0_2 2 1 ms0_3 (ints ((ls0_4.set (Int.toNat 0) q_).set q_.toNat 0)), .vec As0_5 cs0_6 2 1 ms0_7 (ints ((ls0_8.set (Int.toNat 0) p).set p.toNat 0)), .blk b1 27 (Col.cells x)]) _ _) => hq.lend (φp := [IntsAt As0_1 cs0_2 ms0_3 ((ls0_4.set (Int.toNat 0) q_).set q_.toNat 0)]) (allRO_cons (hq.lendVec 0 rfl) (allRO_nil))) (hm.pick (own' := [] ++ [.vec As0_1 cs0_2 2 1 ms0_3 (ints ((ls0_4.set (Int.toNat 0) q_).set q_.toNat 0)), .vec As0_5 cs0_6 2 1 ms0_7 (ints ((ls0_8.set (Int.toNat 0) p).set p.toNat 0)), .blk b1 27 (Col.cells x)]) [0, 1, 2] rfl (by decide))) et5520
        refine wpl_call _ rfl rfl ht rfl rfl rfl rfl can_28 hcall ?_
        clear hcall
        rintro _ w ⟨rfl, hpost⟩ a ht
        replace hm := (hm.pick (own' := [] ++ [.vec As0_1 cs0_2 2 1 ms0_3 (ints ((ls0_4.set (Int.toNat 0) q_).set q_.toNat 0)), .vec As0_5 cs0_6 2 1 ms0_7 (ints ((ls0_8.set (Int.toNat 0) p).set p.toNat 0)), .blk b1 27 (Col.cells x)]) [0, 1, 2] rfl (by decide)).backL hpost
        clear hpost
        have hS : Ms X (fps []) w0 [.vec As0_1 cs0_2 2 1 ms0_3 (ints ((ls0_4.set (Int.toNat 0) q_).set q_.toNat 0)), .vec As0_5 cs0_6 2 1 ms0_7 (ints ((ls0_8.set (Int.toNat 0) p).set p.toNat 0)), .blk b1 27 (Col.cells x)] [] w := (hm.pick [0, 1, 2] rfl (by decide)).pickφ [] rfl
        refine wpList_nil (qn ⟨hS, ?_⟩)
        refine wph_two (i := 6) (j := 7) (by kernel_rfl) ?_ ?_ 
        · refine wph_step rfl ?_
          refine wpl_alloc rfl rfl ht hm rfl zo_27 ?_
          intro b6520 a ht w hm
          have hS : Ms X (fps []) w0 [.vec As0_1 cs0_2 2 1 ms0_3 (ints ((ls0_4.set (Int.toNat 0) q_).set q_.toNat 0)), .vec As0_5 cs0_6 2 1 ms0_7 (ints ((ls0_8.set (Int.toNat 0) p).set p.toNat 0)), .blk b1 27 (Col.cells x)] [] w := (hm.pick [1, 2, 3] rfl (by decide)).pickφ [] rfl
          refine wpList_nil (qn ⟨hS, ?_⟩)
          refine wph_one (i := 7) (by kernel_rfl) (wph_step rfl ?_)
          refine wpl_alloc rfl rfl ht hm rfl zo_27 ?_
          intro b7520 a ht w hm
          have hS : Ms X (fps []) w0 [.vec As0_1 cs0_2 2 1 ms0_3 (ints ((ls0_4.set (Int.toNat 0) q_).set q_.toNat 0)), .vec As0_5 cs0_6 2 1 ms0_7 (ints ((ls0_8.set (Int.toNat 0) p).set p.toNat 0)), .blk b1 27 (Col.cells x)] [] w := (hm.pick [2, 3, 4] rfl (by decide)).pickφ [] rfl
          refine wpList_nil (qn ⟨hS, ?_⟩)
          refine wph_one (i := 8) (by kernel_rfl) (wph_step rfl ?_)
          refine wpl_store_whole 1 rfl rfl ht hm rfl rfl rfl (szn_27.trans (by first | rw [Col.length_cells] | rfl)) rfl (by simp only [Col.length_cells]) (Col.cells_one _) ?_
          intro a ht w hm
          have hS : Ms X (fps []) w0 [.vec As0_1 cs0_2 2 1 ms0_3 (ints ((ls0_4.set (Int.toNat 0) q_).set q_.toNat 0)), .vec As0_5 cs0_6 2 1 ms0_7 (ints ((ls0_8.set (Int.toNat 0) p).set p.toNat 0)), .blk b1 27 (Col.cells x)] [] w := (hm.pick [2, 3, 4] rfl (by decide)).pickφ [] rfl
          refine wpList_nil (qn ⟨hS, ?_⟩)
          refine wph_one (i := 9) (by kernel_rfl) (wph_step rfl ?_)
          refine wpl_store_whole 0 rfl rfl ht hm rfl rfl rfl (szn_27.trans (by first | rw [Col.length_cells] | rfl)) rfl (by simp only [Col.length_cells]) (Col.cells_one _) ?_
          intro a ht w hm
          have hS : Ms X (fps []) w0 [.vec As0_1 cs0_2 2 1 ms0_3 (ints ((ls0_4.set (Int.toNat 0) q_).set q_.toNat 0)), .vec As0_5 cs0_6 2 1 ms0_7 (ints ((ls0_8.set (Int.toNat 0) p).set p.toNat 0)), .blk b1 27 (Col.cells x)] [] w := (hm.pick [2, 3, 4] rfl (by decide)).pickφ [] rfl
          refine wpList_nil (qn ⟨hS, ?_⟩)
          refine wph_done (by kernel_rfl) ?_
          replace hm := hm.pick (own' := [.blk b6520 27 (Col.cells t2520), .blk b7520 27 (Col.cells t5520), .vec As0_1 cs0_2 2 1 ms0_3 (ints ((ls0_4.set (Int.toNat 0) q_).set q_.toNat 0)), .vec As0_5 cs0_6 2 1 ms0_7 (ints ((ls0_8.set (Int.toNat 0) p).set p.toNat 0)), .blk b1 27 (Col.cells x)]) [1, 0, 2, 3, 4] rfl (by decide)
          refine then_normal ?_
          refine wp_seq ?_
          refine wph_begin (fun w => Ms X (fps []) w0 [.blk b6520 27 (Col.cells t2520), .blk b7520 27 (Col.cells t5520), .vec As0_1 cs0_2 2 1 ms0_3 (ints ((ls0_4.set (Int.toNat 0) q_).set q_.toNat 0)), .vec As0_5 cs0_6 2 1 ms0_7 (ints ((ls0_8.set (Int.toNat 0) p).set p.toNat 0)), .blk b1 27 (Col.cells x)] [] w) mixed ?_
          replace hm := hm.drew
          have hS : Ms X (fps []) w0 [.blk b6520 27 (Col.cells t2520), .blk b7520 27 (Col.cells t5520), .vec As0_1 cs0_2 2 1 ms0_3 (ints ((ls0_4.set (Int.toNat 0) q_).set q_.toNat 0)), .vec As0_5 cs0_6 2 1 ms0_7 (ints ((ls0_8.set (Int.toNat 0) p).set p.toNat 0)), .blk b1 27 (Col.cells x)] [] w.drew := (hm.pick [0, 1, 2, 3, 4] rfl (by decide)).pickφ [] rfl
          generalize w.drew = w at hm hS ⊢
          refine wph_take (i := 0) rfl (by kernel_rfl) (by kernel_rfl) (by kernel_rfl) (fun _ _ _ h => h) rfl ht hS (wanted_plain rfl) (fun w hm => ev_load_agg ht rfl rfl (ag_27.trans (by first | rw [Col.length_cells] | rfl)) (hm.blk_all 0 rfl)) ?_
          intro a ht
          refine wph_take (i := 1) rfl (by kernel_rfl) (by kernel_rfl) (by kernel_rfl) (fun _ _ _ h => h) rfl ht hS (wanted_plain rfl) (fun w hm => ev_load_agg ht rfl rfl (ag_27.trans (by first | rw [Col.length_cells] | rfl)) (hm.blk_all 1 rfl)) ?_
          intro a ht
          refine wph_take (i := 2) rfl (by kernel_rfl) (by kernel_rfl) (by kernel_rfl) (fun _ _ _ h => h) rfl ht hS (wanted_plain rfl) (fun w hm => ev_load_agg ht rfl rfl (ag_27.trans (by first | rw [Col.length_cells] | rfl)) (hm.blk_all 0 rfl)) ?_
          intro a ht
          refine wph_take (i := 4) rfl (by kernel_rfl) (by kernel_rfl) (by kernel_rfl) (fun _ _ _ h => h) rfl ht hS (wanted_plain rfl) (fun w hm => ev_load_agg ht rfl rfl (ag_27.trans (by first | rw [Col.length_cells] | rfl)) (hm.blk_all 1 rfl)) ?_
          intro a ht
          refine wph_one (i := 3) (by kernel_rfl) (wph_step rfl ?_)
          obtain ⟨t14520, et14520, H⟩ := bind_get H
          have hcall := spec_l06Types.calls q4 _ _ t2520 _ ((fun (hq : Ms _ _ _ ([] ++ [.blk b6520 27 (Col.cells t2520), .blk b7520 27 (Col.cells t5520), .vec As0_1 cs0_2 2 1 ms0_3 (ints ((ls0_4.set (Int.toNat 0) q_).set q_.toNat 0)), .vec As0_5 cs0_6 2 1 ms0_7 (ints ((ls0_8.set (Int.toNat 0) p).set p.toNat 0)), .blk b1 27 (Col.cells x)]) _ _) => hq.lend (φp := []) (allRO_nil)) (hm.pick (own' := [] ++ [.blk b6520 27 (Col.cells t2520), .blk b7520 27 (Col.cells t5520), .vec As0_1 cs0_2 2 1 ms0_3 (ints ((ls0_4.set (Int.toNat 0) q_).set q_.toNat 0)), .vec As0_5 cs0_6 2 1 ms0_7 (ints ((ls0_8.set (Int.toNat 0) p).set p.toNat 0)), .blk b1 27 (Col.cells x)]) [0, 1, 2, 3, 4] rfl (by decide))) et14520
          refine wpl_call _ rfl rfl ht rfl rfl rfl rfl can_44 hcall ?_
          clear hcall
          rintro _ w ⟨A14521, c14522, m14523, rfl, hpost⟩ a ht
          replace hm := (hm.pick (own' := [] ++ [.blk b6520 27 (Col.cells t2520), .blk b7520 27 (Col.cells t5520), .vec As0_1 cs0_2 2 1 ms0_3 (ints ((ls0_4.set (Int.toNat 0) q_).set q_.toNat 0)), .vec As0_5 cs0_6 2 1 ms0_7 (ints ((ls0_8.set (Int.toNat 0) p).set p.toNat 0)), .blk b1 27 (Col.cells x)]) [0, 1, 2, 3, 4] rfl (by decide)).backL hpost
          clear hpost
          have hS : Ms X (fps []) w0 [.blk b6520 27 (Col.cells t2520), .blk b7520 27 (Col.cells t5520), .vec As0_1 cs0_2 2 1 ms0_3 (ints ((ls0_4.set (Int.toNat 0) q_).set q_.toNat 0)), .vec As0_5 cs0_6 2 1 ms0_7 (ints ((ls0_8.set (Int.toNat 0) p).set p.toNat 0)), .blk b1 27 (Col.cells x)] [] w := (hm.pick [1, 2, 3, 4, 5] rfl (by decide)).pickφ [] rfl
          refine wpList_nil (qn ⟨hS, ?_⟩)
          refine wph_one (i := 5) (by kernel_rfl) (wph_step rfl ?_)
          obtain ⟨t16520, et16520, H⟩ := bind_get H
          have hcall := spec_l06Types.calls q4 _ _ t5520 _ ((fun (hq : Ms _ _ _ ([] ++ [.vec A14521 c14522 2 1 m14523 (ints t14520), .blk b6520 27 (Col.cells t2520), .blk b7520 27 (Col.cells t5520), .vec As0_1 cs0_2 2 1 ms0_3 (ints ((ls0_4.set (Int.toNat 0) q_).set q_.toNat 0)), .vec As0_5 cs0_6 2 1 ms0_7 (ints ((ls0_8.set (Int.toNat 0) p).set p.toNat 0)), .blk b1 27 (Col.cells x)]) _ _) => hq.lend (φp := []) (allRO_nil)) (hm.pick (own' := [] ++ [.vec A14521 c14522 2 1 m14523 (ints t14520), .blk b6520 27 (Col.cells t2520), .blk b7520 27 (Col.cells t5520), .vec As0_1 cs0_2 2 1 ms0_3 (ints ((ls0_4.set (Int.toNat 0) q_).set q_.toNat 0)), .vec As0_5 cs0_6 2 1 ms0_7 (ints ((ls0_8.set (Int.toNat 0) p).set p.toNat 0)), .blk b1 27 (Col.cells x)]) [0, 1, 2, 3, 4, 5] rfl (by decide))) et16520
          refine wpl_call _ rfl rfl ht rfl rfl rfl rfl can_44 hcall ?_
          clear hcall
          rintro _ w ⟨A16521, c16522, m16523, rfl, hpost⟩ a ht
          replace hm := (hm.pick (own' := [] ++ [.vec A14521 c14522 2 1 m14523 (ints t14520), .blk b6520 27 (Col.cells t2520), .blk b7520 27 (Col.cells t5520), .vec As0_1 cs0_2 2 1 ms0_3 (ints ((ls0_4.set (Int.toNat 0) q_).set q_.toNat 0)), .vec As0_5 cs0_6 2 1 ms0_7 (ints ((ls0_8.set (Int.toNat 0) p).set p.toNat 0)), .blk b1 27 (Col.cells x)]) [0, 1, 2, 3, 4, 5] rfl (by decide)).backL hpost
          clear hpost
          have hS : Ms X (fps []) w0 [.blk b6520 27 (Col.cells t2520), .blk b7520 27 (Col.cells t5520), .vec As0_1 cs0_2 2 1 ms0_3 (ints ((ls0_4.set (Int.toNat 0) q_).set q_.toNat 0)), .vec As0_5 cs0_6 2 1 ms0_7 (ints ((ls0_8.set (Int.toNat 0) p).set p.toNat 0)), .blk b1 27 (Col.cells x)] [] w := (hm.pick [2, 3, 4, 5, 6] rfl (by decide)).pickφ [] rfl
          refine wpList_nil (qn ⟨hS, ?_⟩)
          refine wph_take (i := 6) rfl (by kernel_rfl) (by kernel_rfl) (by kernel_rfl) (fun _ _ _ h => h) rfl ht hS (wanted_plain rfl) (fun w hm => ev_build (vs := (Col.cells t2520 ++ (Col.cells t5520 ++ ([.slice A14521 m14523 c14522, .slice A16521 m16523 c16522, .int .i64 1, .int .i64 0, .slice none 0 0])))) ht rfl bi_45 rfl (fill_two _ _ _ _ _ _ _ _ _ _ rfl rfl rfl)) ?_
          intro a ht
          refine wph_one (i := 7) (by kernel_rfl) (wph_step rfl ?_)
          refine wpl_box rfl rfl ht hm rfl rfl rfl ?_
          intro b18520 a ht w hm
          have hS : Ms X (fps []) w0 [.blk b6520 27 (Col.cells t2520), .blk b7520 27 (Col.cells t5520), .vec As0_1 cs0_2 2 1 ms0_3 (ints ((ls0_4.set (Int.toNat 0) q_).set q_.toNat 0)), .vec As0_5 cs0_6 2 1 ms0_7 (ints ((ls0_8.set (Int.toNat 0) p).set p.toNat 0)), .blk b1 27 (Col.cells x)] [] w := (hm.pick [3, 4, 5, 6, 7] rfl (by decide)).pickφ [] rfl
          refine wpList_nil (qn ⟨hS, ?_⟩)
          refine wph_take (i := 8) rfl (by kernel_rfl) (by kernel_rfl) (by kernel_rfl) (fun _ _ _ h => h) rfl ht hS (wanted_plain rfl) (fun w hm => ev_assign ht rfl rfl) ?_
          intro a ht
          refine wph_done (by kernel_rfl) ?_
          replace hm := hm.pick (own' := [.vec A14521 c14522 2 1 m14523 (ints t14520), .vec A16521 c16522 2 1 m16523 (ints t16520), .blk b18520 45 (Col.cells t2520 ++ (Col.cells t5520 ++ ([.slice A14521 m14523 c14522, .slice A16521 m16523 c16522, .int .i64 1, .int .i64 0, .slice none 0 0]))), .blk b6520 27 (Col.cells t2520), .blk b7520 27 (Col.cells t5520), .vec As0_1 cs0_2 2 1 ms0_3 (ints ((ls0_4.set (Int.toNat 0) q_).set q_.toNat 0)), .vec As0_5 cs0_6 2 1 ms0_7 (ints ((ls0_8.set (Int.toNat 0) p).set p.toNat 0)), .blk b1 27 (Col.cells x)]) [2, 1, 0, 3, 4, 5, 6, 7] rfl (by decide)
          refine then_normal ?_
          refine wp_seq ?_
          refine wp_seq ?_
          refine wph_begin (fun w => Ms X (fps []) w0 [.vec A14521 c14522 2 1 m14523 (ints t14520), .vec A16521 c16522 2 1 m16523 (ints t16520), .blk b18520 45 (Col.cells t2520 ++ (Col.cells t5520 ++ ([.slice A14521 m14523 c14522, .slice A16521 m16523 c16522, .int .i64 1, .int .i64 0, .slice none 0 0]))), .blk b6520 27 (Col.cells t2520), .blk b7520 27 (Col.cells t5520), .vec As0_1 cs0_2 2 1 ms0_3 (ints ((ls0_4.set (Int.toNat 0) q_).set q_.toNat 0)), .vec As0_5 cs0_6 2 1 ms0_7 (ints ((ls0_8.set (Int.toNat 0) p).set p.toNat 0)), .blk b1 27 (Col.cells x)] [] w) mixed ?_
          replace hm := hm.drew
          have hS : Ms X (fps []) w0 [.vec A14521 c14522 2 1 m14523 (ints t14520), .vec A16521 c16522 2 1 m16523 (ints t16520), .blk b18520 45 (Col.cells t2520 ++ (Col.cells t5520 ++ ([.slice A14521 m14523 c14522, .slice A16521 m16523 c16522, .int .i64 1, .int .i64 0, .slice none 0 0]))), .blk b6520 27 (Col.cells t2520), .blk b7520 27 (Col.cells t5520), .vec As0_1 cs0_2 2 1 ms0_3 (ints ((ls0_4.set (Int.toNat 0) q_).set q_.toNat 0)), .vec As0_5 cs0_6 2 1 ms0_7 (ints ((ls0_8.set (Int.toNat 0) p).set p.toNat 0)), .blk b1 27 (Col.cells x)] [] w.drew := (hm.pick [0, 1, 2, 3, 4, 5, 6, 7] rfl (by decide)).pickφ [] rfl
          generalize w.drew = w at hm hS ⊢
          refine wph_take (i := 0) rfl (by kernel_rfl) (by kernel_rfl) (by kernel_rfl) (fun _ _ _ h => h) rfl ht hS (wanted_plain rfl) (fun w hm => ev_move ht rfl rfl) ?_
          intro a ht
          refine wph_take (i := 1) rfl (by kernel_rfl) (by kernel_rfl) (by kernel_rfl) (fun _ _ _ h => h) rfl ht hS (wanted_plain rfl) (fun w hm => ev_nilCheck ht rfl rfl) ?_
          intro a ht
          refine wph_take (i := 2) rfl (by kernel_rfl) (by kernel_rfl) (by kernel_rfl) (fun _ _ _ h => h) rfl ht hS (wanted_plain rfl) (fun w hm => ev_fieldAddr ht rfl rfl fo_45_2) ?_
          intro a ht
          refine wph_take (i := 3) rfl (by kernel_rfl) (by kernel_rfl) (by kernel_rfl) (fun _ _ _ h => h) rfl ht hS (wanted_plain rfl) (fun w hm => ev_load ht rfl rfl sc_43 (hm.blk_cell 2 rfl ((seg_col _ _ 138).trans ((seg_col _ _ 0).trans rfl)))) ?_
          intro a ht
          obtain ⟨t21020, et21020, H⟩ := bind_get H
          refine wph_take (i := 4) rfl (by kernel_rfl) (by kernel_rfl) (by kernel_rfl) (fun _ _ _ h => h) rfl ht hS (wanted_plain rfl) (fun w hm => ev_index_ints ht rfl rfl rfl so_43 (hm.vec_row 0 rfl) et21020) ?_
          intro a ht
          refine wph_take (i := 5) rfl (by kernel_rfl) (by kernel_rfl) (by kernel_rfl) (fun _ _ _ h => h) rfl ht hS (wanted_plain rfl) (fun w hm => ev_load ht rfl rfl sc_2 (RowAt.cell (hm.vec_row 0 rfl) (ints_get et21020) rfl)) ?_
          intro a ht
          refine wph_take (i := 6) rfl (by kernel_rfl) (by kernel_rfl) (by kernel_rfl) (fun _ _ _ h => h) rfl ht hS (wanted_plain rfl) (fun w hm => ev_move ht rfl rfl) ?_
          intro a ht
          refine wph_take (i := 7) rfl (by kernel_rfl) (by kernel_rfl) (by kernel_rfl) (fun _ _ _ h => h) rfl ht hS (wanted_plain rfl) (fun w hm => ev_nilCheck ht rfl rfl) ?_
          intro a ht
          refine wph_take (i := 8) rfl (by kernel_rfl) (by kernel_rfl) (by kernel_rfl) (fun _ _ _ h => h) rfl ht hS (wanted_plain rfl) (fun w hm => ev_fieldAddr ht rfl rfl fo_45_3) ?_
          intro a ht
          refine wph_take (i := 9) rfl (by kernel_rfl) (by kernel_rfl) (by kernel_rfl) (fun _ _ _ h => h) rfl ht hS (wanted_plain rfl) (fun w hm => ev_load ht rfl rfl sc_43 (hm.blk_cell 2 rfl ((seg_col _ _ 139).trans ((seg_col _ _ 1).trans rfl)))) ?_
          intro a ht
          obtain ⟨t21021, et21021, H⟩ := bind_get H
          refine wph_take (i := 10) rfl (by kernel_rfl) (by kernel_rfl) (by kernel_rfl) (fun _ _ _ h => h) rfl ht hS (wanted_plain rfl) (fun w hm => ev_index_ints ht rfl rfl rfl so_43 (hm.vec_row 1 rfl) et21021) ?_
          intro a ht
          refine wph_take (i := 11) rfl (by kernel_rfl) (by kernel_rfl) (by kernel_rfl) (fun _ _ _ h => h) rfl ht hS (wanted_plain rfl) (fun w hm => ev_load ht rfl rfl sc_2 (RowAt.cell (hm.vec_row 1 rfl) (ints_get et21021) rfl)) ?_
          intro a ht
          refine wph_take (i := 12) rfl (by kernel_rfl) (by kernel_rfl) (by kernel_rfl) (fun _ _ _ h => h) rfl ht hS (wanted_plain rfl) (fun w hm => ev_cmp ht rfl rfl rfl rfl) ?_
          intro a ht
          refine wph_done (by kernel_rfl) ?_
          refine then_normal ?_
          by_cases h21022 : t21020 = t21021
          · replace H := ite_yes h21022 H
            refine wpc_yes ht rfl (decide_eq_true h21022) ?_
            refine wpr ?_
            refine wpl rfl rfl ht (ev_move ht rfl rfl) ?_
            intro a ht
            refine wpl_build_ints (l := [0]) rfl rfl ht hm rfl und_43 zo_2 sz1_2 (by decide) rfl rfl rfl ?_
            intro A21023 a ht w hm
            replace hm : Ms _ _ _ _ (IntsAt A14521 c14522 m14523 t14520 :: _) w := hm.shutVec 1 rfl
            replace hm : Ms _ _ _ _ (IntsAt A16521 c16522 m16523 t16520 :: _) w := hm.shutVec 1 rfl
            replace hm : Ms _ _ _ _ (IntsAt A21023 1 1 ([0]) :: _) w := hm.shutVec 0 rfl
            replace hm : Ms _ _ _ _ (IntsAt none 0 0 ([] : List Int) :: _) w := hm.nilRow none 1
            obtain ⟨t21025, et21025, H⟩ := bind_get H
            have hcall := spec_l06Go.calls q4 _ _ b18520 A14521 c14522 m14523 A16521 c16522 m16523 none 0 0 A21023 1 1 t2520 t5520 t14520 t16520 1 0 ([]) ([0]) 1 _ ((hm.pick (own' := [.blk b18520 45 (Col.cells t2520 ++ (Col.cells t5520 ++ ([.slice A14521 m14523 c14522, .slice A16521 m16523 c16522, .int .i64 1, .int .i64 0, .slice none 0 0])))] ++ [.blk b6520 27 (Col.cells t2520), .blk b7520 27 (Col.cells t5520), .vec As0_1 cs0_2 2 1 ms0_3 (ints ((ls0_4.set (Int.toNat 0) q_).set q_.toNat 0)), .vec As0_5 cs0_6 2 1 ms0_7 (ints ((ls0_8.set (Int.toNat 0) p).set p.toNat 0)), .blk b1 27 (Col.cells x)]) [0, 1, 2, 3, 4, 5] rfl (by decide)).give (passed := [.blk b18520 45 (Col.cells t2520 ++ (Col.cells t5520 ++ ([.slice A14521 m14523 c14522, .slice A16521 m16523 c16522, .int .i64 1, .int .i64 0, .slice none 0 0])))]) (rest := [.blk b6520 27 (Col.cells t2520), .blk b7520 27 (Col.cells t5520), .vec As0_1 cs0_2 2 1 ms0_3 (ints ((ls0_4.set (Int.toNat 0) q_).set q_.toNat 0)), .vec As0_5 cs0_6 2 1 ms0_7 (ints ((ls0_8.set (Int.toNat 0) p).set p.toNat 0)), .blk b1 27 (Col.cells x)]) (φp := [IntsAt A14521 c14522 m14523 t14520, IntsAt A16521 c16522 m16523 t16520, IntsAt none 0 0 ([] : List Int), IntsAt A21023 1 1 ([0])]) [3, 2, 0, 1] rfl) et21025
            refine wpl_call _ rfl rfl ht rfl rfl rfl rfl can_45 hcall ?_
            clear hcall
            rintro _ w ⟨A21026, c21027, m21028, A21029, c21030, m21031, A21032, c21033, m21034, rfl, hpost⟩ a ht
            replace hm := (hm.pick (own' := [.blk b18520 45 (Col.cells t2520 ++ (Col.cells t5520 ++ ([.slice A14521 m14523 c14522, .slice A16521 m16523 c16522, .int .i64 1, .int .i64 0, .slice none 0 0])))] ++ [.blk b6520 27 (Col.cells t2520), .blk b7520 27 (Col.cells t5520), .vec As0_1 cs0_2 2 1 ms0_3 (ints ((ls0_4.set (Int.toNat 0) q_).set q_.toNat 0)), .vec As0_5 cs0_6 2 1 ms0_7 (ints ((ls0_8.set (Int.toNat 0) p).set p.toNat 0)), .blk b1 27 (Col.cells x)]) [0, 1, 2, 3, 4, 5] rfl (by decide)).back hpost
            clear hpost
            refine wpList_nil ?_
            refine then_normal ?_
            refine wp_seq ?_
            refine wpr ?_
            refine wpl rfl rfl ht (ev_move ht rfl rfl) ?_
            intro a ht
            refine wpl rfl rfl ht (ev_nilCheck ht rfl rfl) ?_
            intro a ht
            refine wpl rfl rfl ht (ev_fieldAddr ht rfl rfl fo_45_5) ?_
            intro a ht
            refine wpl rfl rfl ht (ev_load ht rfl rfl sc_2 (hm.blk_cell 0 rfl ((seg_col _ _ 141).trans ((seg_col _ _ 3).trans rfl)))) ?_
            intro a ht
            refine wpl rfl rfl ht (ev_cmp ht rfl rfl rfl rfl) ?_
            intro a ht
            refine wpl rfl rfl ht (ev_assign ht rfl rfl) ?_
            intro a ht
            refine wpList_nil ?_
            refine then_normal ?_
            refine wp_ret ?_
            have hres := ht.res (P := Try.prog) (w := w) (rs := [.tmp 6]) (vs := [.bool (decide (t21025.2.2.2.2.2.1 > 0))]) (.tmp rfl .nil)
            obtain rfl := Option.some.inj H
            exact leave ht rfl hres ⟨rfl, ((hm.pick [] rfl (by decide)).pickφ [] rfl).post fun _ h => h⟩
          · replace H := ite_no h21022 H
            refine wpc_no ht rfl (decide_eq_false h21022) ?_
            refine wp_skip ?_
            refine then_normal ?_
            refine wp_seq ?_
            refine wpr ?_
            refine wpl rfl rfl ht (ev_move ht rfl rfl) ?_
            intro a ht
            refine wpl rfl rfl ht (ev_nilCheck ht rfl rfl) ?_
            intro a ht
            refine wpl rfl rfl ht (ev_fieldAddr ht rfl rfl fo_45_5) ?_
            intro a ht
            refine wpl rfl rfl ht (ev_load ht rfl rfl sc_2 (hm.blk_cell 2 rfl ((seg_col _ _ 141).trans ((seg_col _ _ 3).trans rfl)))) ?_
            intro a ht
            refine wpl rfl rfl ht (ev_cmp (r := false) ht rfl rfl rfl (by decide)) ?_
            intro a ht
            refine wpl rfl rfl ht (ev_assign ht rfl rfl) ?_
            intro a ht
            refine wpList_nil ?_
            refine then_normal ?_
            refine wp_ret ?_
            have hres := ht.res (P := Try.prog) (w := w) (rs := [.tmp 6]) (vs := [.bool false]) (.tmp rfl .nil)
            obtain rfl := Option.some.inj H
            exact leave ht rfl hres ⟨rfl, ((hm.pick [] rfl (by decide)).pickφ [] rfl).post fun _ h => h⟩
        · refine wph_step rfl ?_
          refine wpl_alloc rfl rfl ht hm rfl zo_27 ?_
          intro b7520 a ht w hm
          have hS : Ms X (fps []) w0 [.vec As0_1 cs0_2 2 1 ms0_3 (ints ((ls0_4.set (Int.toNat 0) q_).set q_.toNat 0)), .vec As0_5 cs0_6 2 1 ms0_7 (ints ((ls0_8.set (Int.toNat 0) p).set p.toNat 0)), .blk b1 27 (Col.cells x)] [] w := (hm.pick [1, 2, 3] rfl (by decide)).pickφ [] rfl
          refine wpList_nil (qn ⟨hS, ?_⟩)
          refine wph_one (i := 6) (by kernel_rfl) (wph_step rfl ?_)
          refine wpl_alloc rfl rfl ht hm rfl zo_27 ?_
          intro b6520 a ht w hm
          have hS : Ms X (fps []) w0 [.vec As0_1 cs0_2 2 1 ms0_3 (ints ((ls0_4.set (Int.toNat 0) q_).set q_.toNat 0)), .vec As0_5 cs0_6 2 1 ms0_7 (ints ((ls0_8.set (Int.toNat 0) p).set p.toNat 0)), .blk b1 27 (Col.cells x)] [] w := (hm.pick [2, 3, 4] rfl (by decide)).pickφ [] rfl
          refine wpList_nil (qn ⟨hS, ?_⟩)
          refine wph_one (i := 8) (by kernel_rfl) (wph_step rfl ?_)
          refine wpl_store_whole 0 rfl rfl ht hm rfl rfl rfl (szn_27.trans (by first | rw [Col.length_cells] | rfl)) rfl (by simp only [Col.length_cells]) (Col.cells_one _) ?_
          intro a ht w hm
          have hS : Ms X (fps []) w0 [.vec As0_1 cs0_2 2 1 ms0_3 (ints ((ls0_4.set (Int.toNat 0) q_).set q_.toNat 0)), .vec As0_5 cs0_6 2 1 ms0_7 (ints ((ls0_8.set (Int.toNat 0) p).set p.toNat 0)), .blk b1 27 (Col.cells x)] [] w := (hm.pick [2, 3, 4] rfl (by decide)).pickφ [] rfl
          refine wpList_nil (qn ⟨hS, ?_⟩)
          refine wph_one (i := 9) (by kernel_rfl) (wph_step rfl ?_)
          refine wpl_store_whole 1 rfl rfl ht hm rfl rfl rfl (szn_27.trans (by first | rw [Col.length_cells] | rfl)) rfl (by simp only [Col.length_cells]) (Col.cells_one _) ?_
          intro a ht w hm
          have hS : Ms X (fps []) w0 [.vec As0_1 cs0_2 2 1 ms0_3 (ints ((ls0_4.set (Int.toNat 0) q_).set q_.toNat 0)), .vec As0_5 cs0_6 2 1 ms0_7 (ints ((ls0_8.set (Int.toNat 0) p).set p.toNat 0)), .blk b1 27 (Col.cells x)] [] w := (hm.pick [2, 3, 4] rfl (by decide)).pickφ [] rfl
          refine wpList_nil (qn ⟨hS, ?_⟩)
          refine wph_done (by kernel_rfl) ?_
          refine then_normal ?_
          refine wp_seq ?_
          refine wph_begin (fun w => Ms X (fps []) w0 [.blk b6520 27 (Col.cells t2520), .blk b7520 27 (Col.cells t5520), .vec As0_1 cs0_2 2 1 ms0_3 (ints ((ls0_4.set (Int.toNat 0) q_).set q_.toNat 0)), .vec As0_5 cs0_6 2 1 ms0_7 (ints ((ls0_8.set (Int.toNat 0) p).set p.toNat 0)), .blk b1 27 (Col.cells x)] [] w) mixed ?_
          replace hm := hm.drew
          have hS : Ms X (fps []) w0 [.blk b6520 27 (Col.cells t2520), .blk b7520 27 (Col.cells t5520), .vec As0_1 cs0_2 2 1 ms0_3 (ints ((ls0_4.set (Int.toNat 0) q_).set q_.toNat 0)), .vec As0_5 cs0_6 2 1 ms0_7 (ints ((ls0_8.set (Int.toNat 0) p).set p.toNat 0)), .blk b1 27 (Col.cells x)] [] w.drew := (hm.pick [0, 1, 2, 3, 4] rfl (by decide)).pickφ [] rfl
          generalize w.drew = w at hm hS ⊢
          refine wph_take (i := 0) rfl (by kernel_rfl) (by kernel_rfl) (by kernel_rfl) (fun _ _ _ h => h) rfl ht hS (wanted_plain rfl) (fun w hm => ev_load_agg ht rfl rfl (ag_27.trans (by first | rw [Col.length_cells] | rfl)) (hm.blk_all 0 rfl)) ?_
          intro a ht
          refine wph_take (i := 1) rfl (by kernel_rfl) (by kernel_rfl) (by kernel_rfl) (fun _ _ _ h => h) rfl ht hS (wanted_plain rfl) (fun w hm => ev_load_agg ht rfl rfl (ag_27.trans (by first | rw [Col.length_cells] | rfl)) (hm.blk_all 1 rfl)) ?_
          intro a ht
          refine wph_take (i := 2) rfl (by kernel_rfl) (by kernel_rfl) (by kernel_rfl) (fun _ _ _ h => h) rfl ht hS (wanted_plain rfl) (fun w hm => ev_load_agg ht rfl rfl (ag_27.trans (by first | rw [Col.length_cells] | rfl)) (hm.blk_all 0 rfl)) ?_
          intro a ht
          refine wph_take (i := 4) rfl (by kernel_rfl) (by kernel_rfl) (by kernel_rfl) (fun _ _ _ h => h) rfl ht hS (wanted_plain rfl) (fun w hm => ev_load_agg ht rfl rfl (ag_27.trans (by first | rw [Col.length_cells] | rfl)) (hm.blk_all 1 rfl)) ?_
          intro a ht
          refine wph_one (i := 3) (by kernel_rfl) (wph_step rfl ?_)
          obtain ⟨t14520, et14520, H⟩ := bind_get H
          have hcall := spec_l06Types.calls q4 _ _ t2520 _ ((fun (hq : Ms _ _ _ ([] ++ [.blk b6520 27 (Col.cells t2520), .blk b7520 27 (Col.cells t5520), .vec As0_1 cs0_2 2 1 ms0_3 (ints ((ls0_4.set (Int.toNat 0) q_).set q_.toNat 0)), .vec As0_5 cs0_6 2 1 ms0_7 (ints ((ls0_8.set (Int.toNat 0) p).set p.toNat 0)), .blk b1 27 (Col.cells x)]) _ _) => hq.lend (φp := []) (allRO_nil)) (hm.pick (own' := [] ++ [.blk b6520 27 (Col.cells t2520), .blk b7520 27 (Col.cells t5520), .vec As0_1 cs0_2 2 1 ms0_3 (ints ((ls0_4.set (Int.toNat 0) q_).set q_.toNat 0)), .vec As0_5 cs0_6 2 1 ms0_7 (ints ((ls0_8.set (Int.toNat 0) p).set p.toNat 0)), .blk b1 27 (Col.cells x)]) [0, 1, 2, 3, 4] rfl (by decide))) et14520
          refine wpl_call _ rfl rfl ht rfl rfl rfl rfl can_44 hcall ?_
          clear hcall
          rintro _ w ⟨A14521, c14522, m14523, rfl, hpost⟩ a ht
          replace hm := (hm.pick (own' := [] ++ [.blk b6520 27 (Col.cells t2520), .blk b7520 27 (Col.cells t5520), .vec As0_1 cs0_2 2 1 ms0_3 (ints ((ls0_4.set (Int.toNat 0) q_).set q_.toNat 0)), .vec As0_5 cs0_6 2 1 ms0_7 (ints ((ls0_8.set (Int.toNat 0) p).set p.toNat 0)), .blk b1 27 (Col.cells x)]) [0, 1, 2, 3, 4] rfl (by decide)).backL hpost
          clear hpost
          have hS : Ms X (fps []) w0 [.blk b6520 27 (Col.cells t2520), .blk b7520 27 (Col.cells t5520), .vec As0_1 cs0_2 2 1 ms0_3 (ints ((ls0_4.set (Int.toNat 0) q_).set q_.toNat 0)), .vec As0_5 cs0_6 2 1 ms0_7 (ints ((ls0_8.set (Int.toNat 0) p).set p.toNat 0)), .blk b1 27 (Col.cells x)] [] w := (hm.pick [1, 2, 3, 4, 5] rfl (by decide)).pickφ [] rfl
          refine wpList_nil (qn ⟨hS, ?_⟩)
          refine wph_one (i := 5) (by kernel_rfl) (wph_step rfl ?_)
          obtain ⟨t16520, et16520, H⟩ := bind_get H
          have hcall := spec_l06Types.calls q4 _ _ t5520 _ ((fun (hq : Ms _ _ _ ([] ++ [.vec A14521 c14522 2 1 m14523 (ints t14520), .blk b6520 27 (Col.cells t2520), .blk b7520 27 (Col.cells t5520), .vec As0_1 cs0_2 2 1 ms0_3 (ints ((ls0_4.set (Int.toNat 0) q_).set q_.toNat 0)), .vec As0_5 cs0_6 2 1 ms0_7 (ints ((ls0_8.set (Int.toNat 0) p).set p.toNat 0)), .blk b1 27 (Col.cells x)]) _ _) => hq.lend (φp := []) (allRO_nil)) (hm.pick (own' := [] ++ [.vec A14521 c14522 2 1 m14523 (ints t14520), .blk b6520 27 (Col.cells t2520), .blk b7520 27 (Col.cells t5520), .vec As0_1 cs0_2 2 1 ms0_3 (ints ((ls0_4.set (Int.toNat 0) q_).set q_.toNat 0)), .vec As0_5 cs0_6 2 1 ms0_7 (ints ((ls0_8.set (Int.toNat 0) p).set p.toNat 0)), .blk b1 27 (Col.cells x)]) [0, 1, 2, 3, 4, 5] rfl (by decide))) et16520
          refine wpl_call _ rfl rfl ht rfl rfl rfl rfl can_44 hcall ?_
          clear hcall
          rintro _ w ⟨A16521, c16522, m16523, rfl, hpost⟩ a ht
          replace hm := (hm.pick (own' := [] ++ [.vec A14521 c14522 2 1 m14523 (ints t14520), .blk b6520 27 (Col.cells t2520), .blk b7520 27 (Col.cells t5520), .vec As0_1 cs0_2 2 1 ms0_3 (ints ((ls0_4.set (Int.toNat 0) q_).set q_.toNat 0)), .vec As0_5 cs0_6 2 1 ms0_7 (ints ((ls0_8.set (Int.toNat 0) p).set p.toNat 0)), .blk b1 27 (Col.cells x)]) [0, 1, 2, 3, 4, 5] rfl (by decide)).backL hpost
          clear hpost
          have hS : Ms X (fps []) w0 [.blk b6520 27 (Col.cells t2520), .blk b7520 27 (Col.cells t5520), .vec As0_1 cs0_2 2 1 ms0_3 (ints ((ls0_4.set (Int.toNat 0) q_).set q_.toNat 0)), .vec As0_5 cs0_6 2 1 ms0_7 (ints ((ls0_8.set (Int.toNat 0) p).set p.toNat 0)), .blk b1 27 (Col.cells x)] [] w := (hm.pick [2, 3, 4, 5, 6] rfl (by decide)).pickφ [] rfl
          refine wpList_nil (qn ⟨hS, ?_⟩)
          refine wph_take (i := 6) rfl (by kernel_rfl) (by kernel_rfl) (by kernel_rfl) (fun _ _ _ h => h) rfl ht hS (wanted_plain rfl) (fun w hm => ev_build (vs := (Col.cells t2520 ++ (Col.cells t5520 ++ ([.slice A14521 m14523 c14522, .slice A16521 m16523 c16522, .int .i64 1, .int .i64 0, .slice none 0 0])))) ht rfl bi_45 rfl (fill_two _ _ _ _ _ _ _ _ _ _ rfl rfl rfl)) ?_
          intro a ht
          refine wph_one (i := 7) (by kernel_rfl) (wph_step rfl ?_)
          refine wpl_box rfl rfl ht hm rfl rfl rfl ?_
          intro b18520 a ht w hm
          have hS : Ms X (fps []) w0 [.blk b6520 27 (Col.cells t2520), .blk b7520 27 (Col.cells t5520), .vec As0_1 cs0_2 2 1 ms0_3 (ints ((ls0_4.set (Int.toNat 0) q_).set q_.toNat 0)), .vec As0_5 cs0_6 2 1 ms0_7 (ints ((ls0_8.set (Int.toNat 0) p).set p.toNat 0)), .blk b1 27 (Col.cells x)] [] w := (hm.pick [3, 4, 5, 6, 7] rfl (by decide)).pickφ [] rfl
          refine wpList_nil (qn ⟨hS, ?_⟩)
          refine wph_take (i := 8) rfl (by kernel_rfl) (by kernel_rfl) (by kernel_rfl) (fun _ _ _ h => h) rfl ht hS (wanted_plain rfl) (fun w hm => ev_assign ht rfl rfl) ?_
          intro a ht
          refine wph_done (by kernel_rfl) ?_
          replace hm := hm.pick (own' := [.vec A14521 c14522 2 1 m14523 (ints t14520), .vec A16521 c16522 2 1 m16523 (ints t16520), .blk b18520 45 (Col.cells t2520 ++ (Col.cells t5520 ++ ([.slice A14521 m14523 c14522, .slice A16521 m16523 c16522, .int .i64 1, .int .i64 0, .slice none 0 0]))), .blk b6520 27 (Col.cells t2520), .blk b7520 27 (Col.cells t5520), .vec As0_1 cs0_2 2 1 ms0_3 (ints ((ls0_4.set (Int.toNat 0) q_).set q_.toNat 0)), .vec As0_5 cs0_6 2 1 ms0_7 (ints ((ls0_8.set (Int.toNat 0) p).set p.toNat 0)), .blk b1 27 (Col.cells x)]) [2, 1, 0, 3, 4, 5, 6, 7] rfl (by decide)
          refine then_normal ?_
          refine wp_seq ?_
          refine wp_seq ?_
          refine wph_begin (fun w => Ms X (fps []) w0 [.vec A14521 c14522 2 1 m14523 (ints t14520), .vec A16521 c16522 2 1 m16523 (ints t16520), .blk b18520 45 (Col.cells t2520 ++ (Col.cells t5520 ++ ([.slice A14521 m14523 c14522, .slice A16521 m16523 c16522, .int .i64 1, .int .i64 0, .slice none 0 0]))), .blk b6520 27 (Col.cells t2520), .blk b7520 27 (Col.cells t5520), .vec As0_1 cs0_2 2 1 ms0_3 (ints ((ls0_4.set (Int.toNat 0) q_).set q_.toNat 0)), .vec As0_5 cs0_6 2 1 ms0_7 (ints ((ls0_8.set (Int.toNat 0) p).set p.toNat 0)), .blk b1 27 (Col.cells x)] [] w) mixed ?_
          replace hm := hm.drew
          have hS : Ms X (fps []) w0 [.vec A14521 c14522 2 1 m14523 (ints t14520), .vec A16521 c16522 2 1 m16523 (ints t16520), .blk b18520 45 (Col.cells t2520 ++ (Col.cells t5520 ++ ([.slice A14521 m14523 c14522, .slice A16521 m16523 c16522, .int .i64 1, .int .i64 0, .slice none 0 0]))), .blk b6520 27 (Col.cells t2520), .blk b7520 27 (Col.cells t5520), .vec As0_1 cs0_2 2 1 ms0_3 (ints ((ls0_4.set (Int.toNat 0) q_).set q_.toNat 0)), .vec As0_5 cs0_6 2 1 ms0_7 (ints ((ls0_8.set (Int.toNat 0) p).set p.toNat 0)), .blk b1 27 (Col.cells x)] [] w.drew := (hm.pick [0, 1, 2, 3, 4, 5, 6, 7] rfl (by decide)).pickφ [] rfl
          generalize w.drew = w at hm hS ⊢
          refine wph_take (i := 0) rfl (by kernel_rfl) (by kernel_rfl) (by kernel_rfl) (fun _ _ _ h => h) rfl ht hS (wanted_plain rfl) (fun w hm => ev_move ht rfl rfl) ?_
          intro a ht
          refine wph_take (i := 1) rfl (by kernel_rfl) (by kernel_rfl) (by kernel_rfl) (fun _ _ _ h => h) rfl ht hS (wanted_plain rfl) (fun w hm => ev_nilCheck ht rfl rfl) ?_
          intro a ht
          refine wph_take (i := 2) rfl (by kernel_rfl) (by kernel_rfl) (by kernel_rfl) (fun _ _ _ h => h) rfl ht hS (wanted_plain rfl) (fun w hm => ev_fieldAddr ht rfl rfl fo_45_2) ?_
          intro a ht
          refine wph_take (i := 3) rfl (by kernel_rfl) (by kernel_rfl) (by kernel_rfl) (fun _ _ _ h => h) rfl ht hS (wanted_plain rfl) (fun w hm => ev_load ht rfl rfl sc_43 (hm.blk_cell 2 rfl ((seg_col _ _ 138).trans ((seg_col _ _ 0).trans rfl)))) ?_
          intro a ht
          obtain ⟨t21020, et21020, H⟩ := bind_get H
          refine wph_take (i := 4) rfl (by kernel_rfl) (by kernel_rfl) (by kernel_rfl) (fun _ _ _ h => h) rfl ht hS (wanted_plain rfl) (fun w hm => ev_index_ints ht rfl rfl rfl so_43 (hm.vec_row 0 rfl) et21020) ?_
          intro a ht
          refine wph_take (i := 5) rfl (by kernel_rfl) (by kernel_rfl) (by kernel_rfl) (fun _ _ _ h => h) rfl ht hS (wanted_plain rfl) (fun w hm => ev_load ht rfl rfl sc_2 (RowAt.cell (hm.vec_row 0 rfl) (ints_get et21020) rfl)) ?_
          intro a ht
          refine wph_take (i := 6) rfl (by kernel_rfl) (by kernel_rfl) (by kernel_rfl) (fun _ _ _ h => h) rfl ht hS (wanted_plain rfl) (fun w hm => ev_move ht rfl rfl) ?_
          intro a ht
          refine wph_take (i := 7) rfl (by kernel_rfl) (by kernel_rfl) (by kernel_rfl) (fun _ _ _ h => h) rfl ht hS (wanted_plain rfl) (fun w hm => ev_nilCheck ht rfl rfl) ?_
          intro a ht
          refine wph_take (i := 8) rfl (by kernel_rfl) (by kernel_rfl) (by kernel_rfl) (fun _ _ _ h => h) rfl ht hS (wanted_plain rfl) (fun w hm => ev_fieldAddr ht rfl rfl fo_45_3) ?_
          intro a ht
          refine wph_take (i := 9) rfl (by kernel_rfl) (by kernel_rfl) (by kernel_rfl) (fun _ _ _ h => h) rfl ht hS (wanted_plain rfl) (fun w hm => ev_load ht rfl rfl sc_43 (hm.blk_cell 2 rfl ((seg_col _ _ 139).trans ((seg_col _ _ 1).trans rfl)))) ?_
          intro a ht
          obtain ⟨t21021, et21021, H⟩ := bind_get H
          refine wph_take (i := 10) rfl (by kernel_rfl) (by kernel_rfl) (by kernel_rfl) (fun _ _ _ h => h) rfl ht hS (wanted_plain rfl) (fun w hm => ev_index_ints ht rfl rfl rfl so_43 (hm.vec_row 1 rfl) et21021) ?_
          intro a ht
          refine wph_take (i := 11) rfl (by kernel_rfl) (by kernel_rfl) (by kernel_rfl) (fun _ _ _ h => h) rfl ht hS (wanted_plain rfl) (fun w hm => ev_load ht rfl rfl sc_2 (RowAt.cell (hm.vec_row 1 rfl) (ints_get et21021) rfl)) ?_
          intro a ht
          refine wph_take (i := 12) rfl (by kernel_rfl) (by kernel_rfl) (by kernel_rfl) (fun _ _ _ h => h) rfl ht hS (wanted_plain rfl) (fun w hm => ev_cmp ht rfl rfl rfl rfl) ?_
          intro a ht
          refine wph_done (by kernel_rfl) ?_
          refine then_normal ?_
          by_cases h21022 : t21020 = t21021
          · replace H := ite_yes h21022 H
            refine wpc_yes ht rfl (decide_eq_true h21022) ?_
            refine wpr ?_
            refine wpl rfl rfl ht (ev_move ht rfl rfl) ?_
            intro a ht
            refine wpl_build_ints (l := [0]) rfl rfl ht hm rfl und_43 zo_2 sz1_2 (by decide) rfl rfl rfl ?_
            intro A21023 a ht w hm
            replace hm : Ms _ _ _ _ (IntsAt A14521 c14522 m14523 t14520 :: _) w := hm.shutVec 1 rfl
            replace hm : Ms _ _ _ _ (IntsAt A16521 c16522 m16523 t16520 :: _) w := hm.shutVec 1 rfl
            replace hm : Ms _ _ _ _ (IntsAt A21023 1 1 ([0]) :: _) w := hm.shutVec 0 rfl
            replace hm : Ms _ _ _ _ (IntsAt none 0 0 ([] : List Int) :: _) w := hm.nilRow none 1
            obtain ⟨t21025, et21025, H⟩ := bind_get H
            have hcall := spec_l06Go.calls q4 _ _ b18520 A14521 c14522 m14523 A16521 c16522 m16523 none 0 0 A21023 1 1 t2520 t5520 t14520 t16520 1 0 ([]) ([0]) 1 _ ((hm.pick (own' := [.blk b18520 45 (Col.cells t2520 ++ (Col.cells t5520 ++ ([.slice A14521 m14523 c14522, .slice A16521 m16523 c16522, .int .i64 1, .int .i64 0, .slice none 0 0])))] ++ [.blk b6520 27 (Col.cells t2520), .blk b7520 27 (Col.cells t5520), .vec As0_1 cs0_2 2 1 ms0_3 (ints ((ls0_4.set (Int.toNat 0) q_).set q_.toNat 0)), .vec As0_5 cs0_6 2 1 ms0_7 (ints ((ls0_8.set (Int.toNat 0) p).set p.toNat 0)), .blk b1 27 (Col.cells x)]) [0, 1, 2, 3, 4, 5] rfl (by decide)).give (passed := [.blk b18520 45 (Col.cells t2520 ++ (Col.cells t5520 ++ ([.slice A14521 m14523 c14522, .slice A16521 m16523 c16522, .int .i64 1, .int .i64 0, .slice none 0 0])))]) (rest := [.blk b6520 27 (Col.cells t2520), .blk b7520 27 (Col.cells t5520), .vec As0_1 cs0_2 2 1 ms0_3 (ints ((ls0_4.set (Int.toNat 0) q_).set q_.toNat 0)), .vec As0_5 cs0_6 2 1 ms0_7 (ints ((ls0_8.set (Int.toNat 0) p).set p.toNat 0)), .blk b1 27 (Col.cells x)]) (φp := [IntsAt A14521 c14522 m14523 t14520, IntsAt A16521 c16522 m16523 t16520, IntsAt none 0 0 ([] : List Int), IntsAt A21023 1 1 ([0])]) [3, 2, 0, 1] rfl) et21025
            refine wpl_call _ rfl rfl ht rfl rfl rfl rfl can_45 hcall ?_
            clear hcall
            rintro _ w ⟨A21026, c21027, m21028, A21029, c21030, m21031, A21032, c21033, m21034, rfl, hpost⟩ a ht
            replace hm := (hm.pick (own' := [.blk b18520 45 (Col.cells t2520 ++ (Col.cells t5520 ++ ([.slice A14521 m14523 c14522, .slice A16521 m16523 c16522, .int .i64 1, .int .i64 0, .slice none 0 0])))] ++ [.blk b6520 27 (Col.cells t2520), .blk b7520 27 (Col.cells t5520), .vec As0_1 cs0_2 2 1 ms0_3 (ints ((ls0_4.set (Int.toNat 0) q_).set q_.toNat 0)), .vec As0_5 cs0_6 2 1 ms0_7 (ints ((ls0_8.set (Int.toNat 0) p).set p.toNat 0)), .blk b1 27 (Col.cells x)]) [0, 1, 2, 3, 4, 5] rfl (by decide)).back hpost
            clear hpost
            refine wpList_nil ?_
            refine then_normal ?_
            refine wp_seq ?_
            refine wpr ?_
            refine wpl rfl rfl ht (ev_move ht rfl rfl) ?_
            intro a ht
            refine wpl rfl rfl ht (ev_nilCheck ht rfl rfl) ?_
            intro a ht
            refine wpl rfl rfl ht (ev_fieldAddr ht rfl rfl fo_45_5) ?_
            intro a ht
            refine wpl rfl rfl ht (ev_load ht rfl rfl sc_2 (hm.blk_cell 0 rfl ((seg_col _ _ 141).trans ((seg_col _ _ 3).trans rfl)))) ?_
            intro a ht
            refine wpl rfl rfl ht (ev_cmp ht rfl rfl rfl rfl) ?_
            intro a ht
            refine wpl rfl rfl ht (ev_assign ht rfl rfl) ?_
            intro a ht
            refine wpList_nil ?_
            refine then_normal ?_
            refine wp_ret ?_
            have hres := ht.res (P := Try.prog) (w := w) (rs := [.tmp 6]) (vs := [.bool (decide (t21025.2.2.2.2.2.1 > 0))]) (.tmp rfl .nil)
            obtain rfl := Option.some.inj H
            exact leave ht rfl hres ⟨rfl, ((hm.pick [] rfl (by decide)).pickφ [] rfl).post fun _ h => h⟩
          · replace H := ite_no h21022 H
            refine wpc_no ht rfl (decide_eq_false h21022) ?_
            refine wp_skip ?_
            refine then_normal ?_
            refine wp_seq ?_
            refine wpr ?_
            refine wpl rfl rfl ht (ev_move ht rfl rfl) ?_
            intro a ht
            refine wpl rfl rfl ht (ev_nilCheck ht rfl rfl) ?_
            intro a ht
            refine wpl rfl rfl ht (ev_fieldAddr ht rfl rfl fo_45_5) ?_
            intro a ht
            refine wpl rfl rfl ht (ev_load ht rfl rfl sc_2 (hm.blk_cell 2 rfl ((seg_col _ _ 141).trans ((seg_col _ _ 3).trans rfl)))) ?_
            intro a ht
            refine wpl rfl rfl ht (ev_cmp (r := false) ht rfl rfl rfl (by decide)) ?_
            intro a ht
            refine wpl rfl rfl ht (ev_assign ht rfl rfl) ?_
            intro a ht
            refine wpList_nil ?_
            refine then_normal ?_
            refine wp_ret ?_
            have hres := ht.res (P := Try.prog) (w := w) (rs := [.tmp 6]) (vs := [.bool false]) (.tmp rfl .nil)
            obtain rfl := Option.some.inj H
            exact leave ht rfl hres ⟨rfl, ((hm.pick [] rfl (by decide)).pickφ [] rfl).post fun _ h => h⟩
      · refine wph_step rfl ?_
        refine wpl_alloc rfl rfl ht hm rfl zo_27 ?_
        intro b6520 a ht w hm
        have hS : Ms X (fps []) w0 [.vec As0_1 cs0_2 2 1 ms0_3 (ints ((ls0_4.set (Int.toNat 0) q_).set q_.toNat 0)), .vec As0_5 cs0_6 2 1 ms0_7 (ints ((ls0_8.set (Int.toNat 0) p).set p.toNat 0)), .blk b1 27 (Col.cells x)] [] w := (hm.pick [1, 2, 3] rfl (by decide)).pickφ [] rfl
        refine wpList_nil (qn ⟨hS, ?_⟩)
        refine wph_two (i := 5) (j := 7) (by kernel_rfl) ?_ ?_ 
        · refine wph_step rfl ?_
          obtain ⟨t5520, et5520, H⟩ := bind_get H
          have hcall := spec_l01Renamed.calls q4 _ _ As0_1 cs0_2 ms0_3 x ((ls0_4.set (Int.toNat 0) q_).set q_.toNat 0) _ ((fun (hq : Ms _ _ _ ([] ++ [.blk b6520 27 (Col.cells Col.zero), .vec As0_1 cs0_2 2 1 ms0_3 (ints ((ls0_4.set (Int.toNat 0) q_).set q_.toNat 0)), .vec As0_5 cs0_6 2 1 ms0_7 (ints ((ls0_8.set (Int.toNat 0) p).set p.toNat 0)), .blk b1 27 (Col.cells x)]) _ _) => hq.lend (φp := [IntsAt As0_1 cs0_2 ms0_3 ((ls0_4.set (Int.toNat 0) q_).set q_.toNat 0)]) (allRO_cons (hq.lendVec 1 rfl) (allRO_nil))) (hm.pick (own' := [] ++ [.blk b6520 27 (Col.cells Col.zero), .vec As0_1 cs0_2 2 1 ms0_3 (ints ((ls0_4.set (Int.toNat 0) q_).set q_.toNat 0)), .vec As0_5 cs0_6 2 1 ms0_7 (ints ((ls0_8.set (Int.toNat 0) p).set p.toNat 0)), .blk b1 27 (Col.cells x)]) [0, 1, 2, 3] rfl (by decide))) et5520
          refine wpl_call _ rfl rfl ht rfl rfl rfl rfl can_28 hcall ?_
          clear hcall
          rintro _ w ⟨rfl, hpost⟩ a ht
          replace hm := (hm.pick (own' := [] ++ [.blk b6520 27 (Col.cells Col.zero), .vec As0_1 cs0_2 2 1 ms0_3 (ints ((ls0_4.set (Int.toNat 0) q_).set q_.toNat 0)), .vec As0_5 cs0_6 2 1 ms0_7 (ints ((ls0_8.set (Int.toNat 0) p).set p.toNat 0)), .blk b1 27 (Col.cells x)]) [0, 1, 2, 3] rfl (by decide)).backL hpost
          clear hpost
          have hS : Ms X (fps []) w0 [.vec As0_1 cs0_2 2 1 ms0_3 (ints ((ls0_4.set (Int.toNat 0) q_).set q_.toNat 0)), .vec As0_5 cs0_6 2 1 ms0_7 (ints ((ls0_8.set (Int.toNat 0) p).set p.toNat 0)), .blk b1 27 (Col.cells x)] [] w := (hm.pick [1, 2, 3] rfl (by decide)).pickφ [] rfl
          refine wpList_nil (qn ⟨hS, ?_⟩)
          refine wph_one (i := 7) (by kernel_rfl) (wph_step rfl ?_)
          refine wpl_alloc rfl rfl ht hm rfl zo_27 ?_
          intro b7520 a ht w hm
          have hS : Ms X (fps []) w0 [.vec As0_1 cs0_2 2 1 ms0_3 (ints ((ls0_4.set (Int.toNat 0) q_).set q_.toNat 0)), .vec As0_5 cs0_6 2 1 ms0_7 (ints ((ls0_8.set (Int.toNat 0) p).set p.toNat 0)), .blk b1 27 (Col.cells x)] [] w := (hm.pick [2, 3, 4] rfl (by decide)).pickφ [] rfl
          refine wpList_nil (qn ⟨hS, ?_⟩)
          refine wph_one (i := 8) (by kernel_rfl) (wph_step rfl ?_)
          refine wpl_store_whole 1 rfl rfl ht hm rfl rfl rfl (szn_27.trans (by first | rw [Col.length_cells] | rfl)) rfl (by simp only [Col.length_cells]) (Col.cells_one _) ?_
          intro a ht w hm
          have hS : Ms X (fps []) w0 [.vec As0_1 cs0_2 2 1 ms0_3 (ints ((ls0_4.set (Int.toNat 0) q_).set q_.toNat 0)), .vec As0_5 cs0_6 2 1 ms0_7 (ints ((ls0_8.set (Int.toNat 0) p).set p.toNat 0)), .blk b1 27 (Col.cells x)] [] w := (hm.pick [2, 3, 4] rfl (by decide)).pickφ [] rfl
          refine wpList_nil (qn ⟨hS, ?_⟩)
          refine wph_one (i := 9) (by kernel_rfl) (wph_step rfl ?_)
          refine wpl_store_whole 0 rfl rfl ht hm rfl rfl rfl (szn_27.trans (by first | rw [Col.length_cells] | rfl)) rfl (by simp only [Col.length_cells]) (Col.cells_one _) ?_
          intro a ht w hm
          have hS : Ms X (fps []) w0 [.vec As0_1 cs0_2 2 1 ms0_3 (ints ((ls0_4.set (Int.toNat 0) q_).set q_.toNat 0)), .vec As0_5 cs0_6 2 1 ms0_7 (ints ((ls0_8.set (Int.toNat 0) p).set p.toNat 0)), .blk b1 27 (Col.cells x)] [] w := (hm.pick [2, 3, 4] rfl (by decide)).pickφ [] rfl
          refine wpList_nil (qn ⟨hS, ?_⟩)
          refine wph_done (by kernel_rfl) ?_
          replace hm := hm.pick (own' := [.blk b6520 27 (Col.cells t2520), .blk b7520 27 (Col.cells t5520), .vec As0_1 cs0_2 2 1 ms0_3 (ints ((ls0_4.set (Int.toNat 0) q_).set q_.toNat 0)), .vec As0_5 cs0_6 2 1 ms0_7 (ints ((ls0_8.set (Int.toNat 0) p).set p.toNat 0)), .blk b1 27 (Col.cells x)]) [1, 0, 2, 3, 4] rfl (by decide)
          refine then_normal ?_
          refine wp_seq ?_
          refine wph_begin (fun w => Ms X (fps []) w0 [.blk b6520 27 (Col.cells t2520), .blk b7520 27 (Col.cells t5520), .vec As0_1 cs0_2 2 1 ms0_3 (ints ((ls0_4.set (Int.toNat 0) q_).set q_.toNat 0)), .vec As0_5 cs0_6 2 1 ms0_7 (ints ((ls0_8.set (Int.toNat 0) p).set p.toNat 0)), .blk b1 27 (Col.cells x)] [] w) mixed ?_
          replace hm := hm.drew
          have hS : Ms X (fps []) w0 [.blk b6520 27 (Col.cells t2520), .blk b7520 27 (Col.cells t5520), .vec As0_1 cs0_2 2 1 ms0_3 (ints ((ls0_4.set (Int.toNat 0) q_).set q_.toNat 0)), .vec As0_5 cs0_6 2 1 ms0_7 (ints ((ls0_8.set (Int.toNat 0) p).set p.toNat 0)), .blk b1 27 (Col.cells x)] [] w.drew := (hm.pick [0, 1, 2, 3, 4] rfl (by decide)).pickφ [] rfl
          generalize w.drew = w at hm hS ⊢
          refine wph_take (i := 0) rfl (by kernel_rfl) (by kernel_rfl) (by kernel_rfl) (fun _ _ _ h => h) rfl ht hS (wanted_plain rfl) (fun w hm => ev_load_agg ht rfl rfl (ag_27.trans (by first | rw [Col.length_cells] | rfl)) (hm.blk_all 0 rfl)) ?_
          intro a ht
          refine wph_take (i := 1) rfl (by kernel_rfl) (by kernel_rfl) (by kernel_rfl) (fun _ _ _ h => h) rfl ht hS (wanted_plain rfl) (fun w hm => ev_load_agg ht rfl rfl (ag_27.trans (by first | rw [Col.length_cells] | rfl)) (hm.blk_all 1 rfl)) ?_
          intro a ht
          refine wph_take (i := 2) rfl (by kernel_rfl) (by kernel_rfl) (by kernel_rfl) (fun _ _ _ h => h) rfl ht hS (wanted_plain rfl) (fun w hm => ev_load_agg ht rfl rfl (ag_27.trans (by first | rw [Col.length_cells] | rfl)) (hm.blk_all 0 rfl)) ?_
          intro a ht
          refine wph_take (i := 4) rfl (by kernel_rfl) (by kernel_rfl) (by kernel_rfl) (fun _ _ _ h => h) rfl ht hS (wanted_plain rfl) (fun w hm => ev_load_agg ht rfl rfl (ag_27.trans (by first | rw [Col.length_cells] | rfl)) (hm.blk_all 1 rfl)) ?_
          intro a ht
          refine wph_one (i := 3) (by kernel_rfl) (wph_step rfl ?_)
          obtain ⟨t14520, et14520, H⟩ := bind_get H
          have hcall := spec_l06Types.calls q4 _ _ t2520 _ ((fun (hq : Ms _ _ _ ([] ++ [.blk b6520 27 (Col.cells t2520), .blk b7520 27 (Col.cells t5520), .vec As0_1 cs0_2 2 1 ms0_3 (ints ((ls0_4.set (Int.toNat 0) q_).set q_.toNat 0)), .vec As0_5 cs0_6 2 1 ms0_7 (ints ((ls0_8.set (Int.toNat 0) p).set p.toNat 0)), .blk b1 27 (Col.cells x)]) _ _) => hq.lend (φp := []) (allRO_nil)) (hm.pick (own' := [] ++ [.blk b6520 27 (Col.cells t2520), .blk b7520 27 (Col.cells t5520), .vec As0_1 cs0_2 2 1 ms0_3 (ints ((ls0_4.set (Int.toNat 0) q_).set q_.toNat 0)), .vec As0_5 cs0_6 2 1 ms0_7 (ints ((ls0_8.set (Int.toNat 0) p).set p.toNat 0)), .blk b1 27 (Col.cells x)]) [0, 1, 2, 3, 4] rfl (by decide))) et14520
          refine wpl_call _ rfl rfl ht rfl rfl rfl rfl can_44 hcall ?_
          clear hcall
          rintro _ w ⟨A14521, c14522, m14523, rfl, hpost⟩ a ht
          replace hm := (hm.pick (own' := [] ++ [.blk b6520 27 (Col.cells t2520), .blk b7520 27 (Col.cells t5520), .vec As0_1 cs0_2 2 1 ms0_3 (ints ((ls0_4.set (Int.toNat 0) q_).set q_.toNat 0)), .vec As0_5 cs0_6 2 1 ms0_7 (ints ((ls0_8.set (Int.toNat 0) p).set p.toNat 0)), .blk b1 27 (Col.cells x)]) [0, 1, 2, 3, 4] rfl (by decide)).backL hpost
          clear hpost
          have hS : Ms X (fps []) w0 [.blk b6520 27 (Col.cells t2520), .blk b7520 27 (Col.cells t5520), .vec As0_1 cs0_2 2 1 ms0_3 (ints ((ls0_4.set (Int.toNat 0) q_).set q_.toNat 0)), .vec As0_5 cs0_6 2 1 ms0_7 (ints ((ls0_8.set (Int.toNat 0) p).set p.toNat 0)), .blk b1 27 (Col.cells x)] [] w := (hm.pick [1, 2, 3, 4, 5] rfl (by decide)).pickφ [] rfl
          refine wpList_nil (qn ⟨hS, ?_⟩)
          refine wph_one (i := 5) (by kernel_rfl) (wph_step rfl ?_)
          obtain ⟨t16520, et16520, H⟩ := bind_get H
          have hcall := spec_l06Types.calls q4 _ _ t5520 _ ((fun (hq : Ms _ _ _ ([] ++ [.vec A14521 c14522 2 1 m14523 (ints t14520), .blk b6520 27 (Col.cells t2520), .blk b7520 27 (Col.cells t5520), .vec As0_1 cs0_2 2 1 ms0_3 (ints ((ls0_4.set (Int.toNat 0) q_).set q_.toNat 0)), .vec As0_5 cs0_6 2 1 ms0_7 (ints ((ls0_8.set (Int.toNat 0) p).set p.toNat 0)), .blk b1 27 (Col.cells x)]) _ _) => hq.lend (φp := []) (allRO_nil)) (hm.pick (own' := [] ++ [.vec A14521 c14522 2 1 m14523 (ints t14520), .blk b6520 27 (Col.cells t2520), .blk b7520 27 (Col.cells t5520), .vec As0_1 cs0_2 2 1 ms0_3 (ints ((ls0_4.set (Int.toNat 0) q_).set q_.toNat 0)), .vec As0_5 cs0_6 2 1 ms0_7 (ints ((ls0_8.set (Int.toNat 0) p).set p.toNat 0)), .blk b1 27 (Col.cells x)]) [0, 1, 2, 3, 4, 5] rfl (by decide))) et16520
          refine wpl_call _ rfl rfl ht rfl rfl rfl rfl can_44 hcall ?_
          clear hcall
          rintro _ w ⟨A16521, c16522, m16523, rfl, hpost⟩ a ht
          replace hm := (hm.pick (own' := [] ++ [.vec A14521 c14522 2 1 m14523 (ints t14520), .blk b6520 27 (Col.cells t2520), .blk b7520 27 (Col.cells t5520), .vec As0_1 cs0_2 2 1 ms0_3 (ints ((ls0_4.set (Int.toNat 0) q_).set q_.toNat 0)), .vec As0_5 cs0_6 2 1 ms0_7 (ints ((ls0_8.set (Int.toNat 0) p).set p.toNat 0)), .blk b1 27 (Col.cells x)]) [0, 1, 2, 3, 4, 5] rfl (by decide)).backL hpost
          clear hpost
          have hS : Ms X (fps []) w0 [.blk b6520 27 (Col.cells t2520), .blk b7520 27 (Col.cells t5520), .vec As0_1 cs0_2 2 1 ms0_3 (ints ((ls0_4.set (Int.toNat 0) q_).set q_.toNat 0)), .vec As0_5 cs0_6 2 1 ms0_7 (ints ((ls0_8.set (Int.toNat 0) p).set p.toNat 0)), .blk b1 27 (Col.cells x)] [] w := (hm.pick [2, 3, 4, 5, 6] rfl (by decide)).pickφ [] rfl
          refine wpList_nil (qn ⟨hS, ?_⟩)
          refine wph_take (i := 6) rfl (by kernel_rfl) (by kernel_rfl) (by kernel_rfl) (fun _ _ _ h => h) rfl ht hS (wanted_plain rfl) (fun w hm => ev_build (vs := (Col.cells t2520 ++ (Col.cells t5520 ++ ([.slice A14521 m14523 c14522, .slice A16521 m16523 c16522, .int .i64 1, .int .i64 0, .slice none 0 0])))) ht rfl bi_45 rfl (fill_two _ _ _ _ _ _ _ _ _ _ rfl rfl rfl)) ?_
          intro a ht
          refine wph_one (i := 7) (by kernel_rfl) (wph_step rfl ?_)
          refine wpl_box rfl rfl ht hm rfl rfl rfl ?_
          intro b18520 a ht w hm
          have hS : Ms X (fps []) w0 [.blk b6520 27 (Col.cells t2520), .blk b7520 27 (Col.cells t5520), .vec As0_1 cs0_2 2 1 ms0_3 (ints ((ls0_4.set (Int.toNat 0) q_).set q_.toNat 0)), .vec As0_5 cs0_6 2 1 ms0_7 (ints ((ls0_8.set (Int.toNat 0) p).set p.toNat 0)), .blk b1 27 (Col.cells x)] [] w := (hm.pick [3, 4, 5, 6, 7] rfl (by decide)).pickφ [] rfl
          refine wpList_nil (qn ⟨hS, ?_⟩)
          refine wph_take (i := 8) rfl (by kernel_rfl) (by kernel_rfl) (by kernel_rfl) (fun _ _ _ h => h) rfl ht hS (wanted_plain rfl) (fun w hm => ev_assign ht rfl rfl) ?_
          intro a ht
          refine wph_done (by kernel_rfl) ?_
          replace hm := hm.pick (own' := [.vec A14521 c14522 2 1 m14523 (ints t14520), .vec A16521 c16522 2 1 m16523 (ints t16520), .blk b18520 45 (Col.cells t2520 ++ (Col.cells t5520 ++ ([.slice A14521 m14523 c14522, .slice A16521 m16523 c16522, .int .i64 1, .int .i64 0, .slice none 0 0]))), .blk b6520 27 (Col.cells t2520), .blk b7520 27 (Col.cells t5520), .vec As0_1 cs0_2 2 1 ms0_3 (ints ((ls0_4.set (Int.toNat 0) q_).set q_.toNat 0)), .vec As0_5 cs0_6 2 1 ms0_7 (ints ((ls0_8.set (Int.toNat 0) p).set p.toNat 0)), .blk b1 27 (Col.cells x)]) [2, 1, 0, 3, 4, 5, 6, 7] rfl (by decide)
          refine then_normal ?_
          refine wp_seq ?_
          refine wp_seq ?_
          refine wph_begin (fun w => Ms X (fps []) w0 [.vec A14521 c14522 2 1 m14523 (ints t14520), .vec A16521 c16522 2 1 m16523 (ints t16520), .blk b18520 45 (Col.cells t2520 ++ (Col.cells t5520 ++ ([.slice A14521 m14523 c14522, .slice A16521 m16523 c16522, .int .i64 1, .int .i64 0, .slice none 0 0]))), .blk b6520 27 (Col.cells t2520), .blk b7520 27 (Col.cells t5520), .vec As0_1 cs0_2 2 1 ms0_3 (ints ((ls0_4.set (Int.toNat 0) q_).set q_.toNat 0)), .vec As0_5 cs0_6 2 1 ms0_7 (ints ((ls0_8.set (Int.toNat 0) p).set p.toNat 0)), .blk b1 27 (Col.cells x)] [] w) mixed ?_
          replace hm := hm.drew
          have hS : Ms X (fps []) w0 [.vec A14521 c14522 2 1 m14523 (ints t14520), .vec A16521 c16522 2 1 m16523 (ints t16520), .blk b18520 45 (Col.cells t2520 ++ (Col.cells t5520 ++ ([.slice A14521 m14523 c14522, .slice A16521 m16523 c16522, .int .i64 1, .int .i64 0, .slice none 0 0]))), .blk b6520 27 (Col.cells t2520), .blk b7520 27 (Col.cells t5520), .vec As0_1 cs0_2 2 1 ms0_3 (ints ((ls0_4.set (Int.toNat 0) q_).set q_.toNat 0)), .vec As0_5 cs0_6 2 1 ms0_7 (ints ((ls0_8.set (Int.toNat 0) p).set p.toNat 0)), .blk b1 27 (Col.cells x)] [] w.drew := (hm.pick [0, 1, 2, 3, 4, 5, 6, 7] rfl (by decide)).pickφ [] rfl
          generalize w.drew = w at hm hS ⊢
          refine wph_take (i := 0) rfl (by kernel_rfl) (by kernel_rfl) (by kernel_rfl) (fun _ _ _ h => h) rfl ht hS (wanted_plain rfl) (fun w hm => ev_move ht rfl rfl) ?_
          intro a ht
          refine wph_take (i := 1) rfl (by kernel_rfl) (by kernel_rfl) (by kernel_rfl) (fun _ _ _ h => h) rfl ht hS (wanted_plain rfl) (fun w hm => ev_nilCheck ht rfl rfl) ?_
          intro a ht
          refine wph_take (i := 2) rfl (by kernel_rfl) (by kernel_rfl) (by kernel_rfl) (fun _ _ _ h => h) rfl ht hS (wanted_plain rfl) (fun w hm => ev_fieldAddr ht rfl rfl fo_45_2) ?_
          intro a ht
          refine wph_take (i := 3) rfl (by kernel_rfl) (by kernel_rfl) (by kernel_rfl) (fun _ _ _ h => h) rfl ht hS (wanted_plain rfl) (fun w hm => ev_load ht rfl rfl sc_43 (hm.blk_cell 2 rfl ((seg_col _ _ 138).trans ((seg_col _ _ 0).trans rfl)))) ?_
          intro a ht
          obtain ⟨t21020, et21020, H⟩ := bind_get H
          refine wph_take (i := 4) rfl (by kernel_rfl) (by kernel_rfl) (by kernel_rfl) (fun _ _ _ h => h) rfl ht hS (wanted_plain rfl) (fun w hm => ev_index_ints ht rfl rfl rfl so_43 (hm.vec_row 0 rfl) et21020) ?_
          intro a ht
          refine wph_take (i := 5) rfl (by kernel_rfl) (by kernel_rfl) (by kernel_rfl) (fun _ _ _ h => h) rfl ht hS (wanted_plain rfl) (fun w hm => ev_load ht rfl rfl sc_2 (RowAt.cell (hm.vec_row 0 rfl) (ints_get et21020) rfl)) ?_
          intro a ht
          refine wph_take (i := 6) rfl (by kernel_rfl) (by kernel_rfl) (by kernel_rfl) (fun _ _ _ h => h) rfl ht hS (wanted_plain rfl) (fun w hm => ev_move ht rfl rfl) ?_
          intro a ht
          refine wph_take (i := 7) rfl (by kernel_rfl) (by kernel_rfl) (by kernel_rfl) (fun _ _ _ h => h) rfl ht hS (wanted_plain rfl) (fun w hm => ev_nilCheck ht rfl rfl) ?_
          intro a ht
          refine wph_take (i := 8) rfl (by kernel_rfl) (by kernel_rfl) (by kernel_rfl) (fun _ _ _ h => h) rfl ht hS (wanted_plain rfl) (fun w hm => ev_fieldAddr ht rfl rfl fo_45_3) ?_
          intro a ht
          refine wph_take (i := 9) rfl (by kernel_rfl) (by kernel_rfl) (by kernel_rfl) (fun _ _ _ h => h) rfl ht hS (wanted_plain rfl) (fun w hm => ev_load ht rfl rfl sc_43 (hm.blk_cell 2 rfl ((seg_col _ _ 139).trans ((seg_col _ _ 1).trans rfl)))) ?_
          intro a ht
          obtain ⟨t21021, et21021, H⟩ := bind_get H
          refine wph_take (i := 10) rfl (by kernel_rfl) (by kernel_rfl) (by kernel_rfl) (fun _ _ _ h => h) rfl ht hS (wanted_plain rfl) (fun w hm => ev_index_ints ht rfl rfl rfl so_43 (hm.vec_row 1 rfl) et21021) ?_
          intro a ht
          refine wph_take (i := 11) rfl (by kernel_rfl) (by kernel_rfl) (by kernel_rfl) (fun _ _ _ h => h) rfl ht hS (wanted_plain rfl) (fun w hm => ev_load ht rfl rfl sc_2 (RowAt.cell (hm.vec_row 1 rfl) (ints_get et21021) rfl)) ?_
          intro a ht
          refine wph_take (i := 12) rfl (by kernel_rfl) (by kernel_rfl) (by kernel_rfl) (fun _ _ _ h => h) rfl ht hS (wanted_plain rfl) (fun w hm => ev_cmp ht rfl rfl rfl rfl) ?_
          intro a ht
          refine wph_done (by kernel_rfl) ?_
          refine then_normal ?_
          by_cases h21022 : t21020 = t21021
          · replace H := ite_yes h21022 H
            refine wpc_yes ht rfl (decide_eq_true h21022) ?_
            refine wpr ?_
            refine wpl rfl rfl ht (ev_move ht rfl rfl) ?_
            intro a ht
            refine wpl_build_ints (l := [0]) rfl rfl ht hm rfl und_43 zo_2 sz1_2 (by decide) rfl rfl rfl ?_
            intro A21023 a ht w hm
            replace hm : Ms _ _ _ _ (IntsAt A14521 c14522 m14523 t14520 :: _) w := hm.shutVec 1 rfl
            replace hm : Ms _ _ _ _ (IntsAt A16521 c16522 m16523 t16520 :: _) w := hm.shutVec 1 rfl
            replace hm : Ms _ _ _ _ (IntsAt A21023 1 1 ([0]) :: _) w := hm.shutVec 0 rfl
            replace hm : Ms _ _ _ _ (IntsAt none 0 0 ([] : List Int) :: _) w := hm.nilRow none 1
            obtain ⟨t21025, et21025, H⟩ := bind_get H
            have hcall := spec_l06Go.calls q4 _ _ b18520 A14521 c14522 m14523 A16521 c16522 m16523 none 0 0 A21023 1 1 t2520 t5520 t14520 t16520 1 0 ([]) ([0]) 1 _ ((hm.pick (own' := [.blk b18520 45 (Col.cells t2520 ++ (Col.cells t5520 ++ ([.slice A14521 m14523 c14522, .slice A16521 m16523 c16522, .int .i64 1, .int .i64 0, .slice none 0 0])))] ++ [.blk b6520 27 (Col.cells t2520), .blk b7520 27 (Col.cells t5520), .vec As0_1 cs0_2 2 1 ms0_3 (ints ((ls0_4.set (Int.toNat 0) q_).set q_.toNat 0)), .vec As0_5 cs0_6 2 1 ms0_7 (ints ((ls0_8.set (Int.toNat 0) p).set p.toNat 0)), .blk b1 27 (Col.cells x)]) [0, 1, 2, 3, 4, 5] rfl (by decide)).give (passed := [.blk b18520 45 (Col.cells t2520 ++ (Col.cells t5520 ++ ([.slice A14521 m14523 c14522, .slice A16521 m16523 c16522, .int .i64 1, .int .i64 0, .slice none 0 0])))]) (rest := [.blk b6520 27 (Col.cells t2520), .blk b7520 27 (Col.cells t5520), .vec As0_1 cs0_2 2 1 ms0_3 (ints ((ls0_4.set (Int.toNat 0) q_).set q_.toNat 0)), .vec As0_5 cs0_6 2 1 ms0_7 (ints ((ls0_8.set (Int.toNat 0) p).set p.toNat 0)), .blk b1 27 (Col.cells x)]) (φp := [IntsAt A14521 c14522 m14523 t14520, IntsAt A16521 c16522 m16523 t16520, IntsAt none 0 0 ([] : List Int), IntsAt A21023 1 1 ([0])]) [3, 2, 0, 1] rfl) et21025
            refine wpl_call _ rfl rfl ht rfl rfl rfl rfl can_45 hcall ?_
            clear hcall
            rintro _ w ⟨A21026, c21027, m21028, A21029, c21030, m21031, A21032, c21033, m21034, rfl, hpost⟩ a ht
            replace hm := (hm.pick (own' := [.blk b18520 45 (Col.cells t2520 ++ (Col.cells t5520 ++ ([.slice A14521 m14523 c14522, .slice A16521 m16523 c16522, .int .i64 1, .int .i64 0, .slice none 0 0])))] ++ [.blk b6520 27 (Col.cells t2520), .blk b7520 27 (Col.cells t5520), .vec As0_1 cs0_2 2 1 ms0_3 (ints ((ls0_4.set (Int.toNat 0) q_).set q_.toNat 0)), .vec As0_5 cs0_6 2 1 ms0_7 (ints ((ls0_8.set (Int.toNat 0) p).set p.toNat 0)), .blk b1 27 (Col.cells x)]) [0, 1, 2, 3, 4, 5] rfl (by decide)).back hpost
            clear hpost
            refine wpList_nil ?_
            refine then_normal ?_
            refine wp_seq ?_
            refine wpr ?_
            refine wpl rfl rfl ht (ev_move ht rfl rfl) ?_
            intro a ht
            refine wpl rfl rfl ht (ev_nilCheck ht rfl rfl) ?_
            intro a ht
            refine wpl rfl rfl ht (ev_fieldAddr ht rfl rfl fo_45_5) ?_
            intro a ht
            refine wpl rfl rfl ht (ev_load ht rfl rfl sc_2 (hm.blk_cell 0 rfl ((seg_col _ _ 141).trans ((seg_col _ _ 3).trans rfl)))) ?_
            intro a ht
            refine wpl rfl rfl ht (ev_cmp ht rfl rfl rfl rfl) ?_
            intro a ht
            refine wpl rfl rfl ht (ev_assign ht rfl rfl) ?_
            intro a ht
            refine wpList_nil ?_
            refine then_normal ?_
            refine wp_ret ?_
            have hres := ht.res (P := Try.prog) (w := w) (rs := [.tmp 6]) (vs := [.bool (decide (t21025.2.2.2.2.2.1 > 0))]) (.tmp rfl .nil)
            obtain rfl := Option.some.inj H
            exact leave ht rfl hres ⟨rfl, ((hm.pick [] rfl (by decide)).pickφ [] rfl).post fun _ h => h⟩
          · replace H := ite_no h21022 H
            refine wpc_no ht rfl (decide_eq_false h21022) ?_
            refine wp_skip ?_
            refine then_normal ?_
            refine wp_seq ?_
            refine wpr ?_
            refine wpl rfl rfl ht (ev_move ht rfl rfl) ?_
            intro a ht
            refine wpl rfl rfl ht (ev_nilCheck ht rfl rfl) ?_
            intro a ht
            refine wpl rfl rfl ht (ev_fieldAddr ht rfl rfl fo_45_5) ?_
            intro a ht
            refine wpl rfl rfl ht (ev_load ht rfl rfl sc_2 (hm.blk_cell 2 rfl ((seg_col _ _ 141).trans ((seg_col _ _ 3).trans rfl)))) ?_
            intro a ht
            refine wpl rfl rfl ht (ev_cmp (r := false) ht rfl rfl rfl (by decide)) ?_
            intro a ht
            refine wpl rfl rfl ht (ev_assign ht rfl rfl) ?_
            intro a ht
            refine wpList_nil ?_
            refine then_normal ?_
            refine wp_ret ?_
            have hres := ht.res (P := Try.prog) (w := w) (rs := [.tmp 6]) (vs := [.bool false]) (.tmp rfl .nil)
            obtain rfl := Option.some.inj H
            exact leave ht rfl hres ⟨rfl, ((hm.pick [] rfl (by decide)).pickφ [] rfl).post fun _ h => h⟩
        · refine wph_step rfl ?_
          refine wpl_alloc rfl rfl ht hm rfl zo_27 ?_
          intro b7520 a ht w hm
          have hS : Ms X (fps []) w0 [.vec As0_1 cs0_2 2 1 ms0_3 (ints ((ls0_4.set (Int.toNat 0) q_).set q_.toNat 0)), .vec As0_5 cs0_6 2 1 ms0_7 (ints ((ls0_8.set (Int.toNat 0) p).set p.toNat 0)), .blk b1 27 (Col.cells x)] [] w := (hm.pick [2, 3, 4] rfl (by decide)).pickφ [] rfl
          refine wpList_nil (qn ⟨hS, ?_⟩)
          refine wph_one (i := 5) (by kernel_rfl) (wph_step rfl ?_)
          obtain ⟨t5520, et5520, H⟩ := bind_get H
          have hcall := spec_l01Renamed.calls q4 _ _ As0_1 cs0_2 ms0_3 x ((ls0_4.set (Int.toNat 0) q_).set q_.toNat 0) _ ((fun (hq : Ms _ _ _ ([] ++ [.blk b7520 27 (Col.cells Col.zero), .blk b6520 27 (Col.cells Col.zero), .vec As0_1 cs0_2 2 1 ms0_3 (ints ((ls0_4.set (Int.toNat 0) q_).set q_.toNat 0)), .vec As0_5 cs0_6 2 1 ms0_7 (ints ((ls0_8.set (Int.toNat 0) p).set p.toNat 0)), .blk b1 27 (Col.cells x)]) _ _) => hq.lend (φp := [IntsAt As0_1 cs0_2 ms0_3 ((ls0_4.set (Int.toNat 0) q_).set q_.toNat 0)]) (allRO_cons (hq.lendVec 2 rfl) (allRO_nil))) (hm.pick (own' := [] ++ [.blk b7520 27 (Col.cells Col.zero), .blk b6520 27 (Col.cells Col.zero), .vec As0_1 cs0_2 2 1 ms0_3 (ints ((ls0_4.set (Int.toNat 0) q_).set q_.toNat 0)), .vec As0_5 cs0_6 2 1 ms0_7 (ints ((ls0_8.set (Int.toNat 0) p).set p.toNat 0)), .blk b1 27 (Col.cells x)]) [0, 1, 2, 3, 4] rfl (by decide))) et5520
          refine wpl_call _ rfl rfl ht rfl rfl rfl rfl can_28 hcall ?_
          clear hcall
          rintro _ w ⟨rfl, hpost⟩ a ht
          replace hm := (hm.pick (own' := [] ++ [.blk b7520 27 (Col.cells Col.zero), .blk b6520 27 (Col.cells Col.zero), .vec As0_1 cs0_2 2 1 ms0_3 (ints ((ls0_4.set (Int.toNat 0) q_).set q_.toNat 0)), .vec As0_5 cs0_6 2 1 ms0_7 (ints ((ls0_8.set (Int.toNat 0) p).set p.toNat 0)), .blk b1 27 (Col.cells x)]) [0, 1, 2, 3, 4] rfl (by decide)).backL hpost
          clear hpost
          have hS : Ms X (fps []) w0 [.vec As0_1 cs0_2 2 1 ms0_3 (ints ((ls0_4.set (Int.toNat 0) q_).set q_.toNat 0)), .vec As0_5 cs0_6 2 1 ms0_7 (ints ((ls0_8.set (Int.toNat 0) p).set p.toNat 0)), .blk b1 27 (Col.cells x)] [] w := (hm.pick [2, 3, 4] rfl (by decide)).pickφ [] rfl
          refine wpList_nil (qn ⟨hS, ?_⟩)
          refine wph_one (i := 8) (by kernel_rfl) (wph_step rfl ?_)
          refine wpl_store_whole 1 rfl rfl ht hm rfl rfl rfl (szn_27.trans (by first | rw [Col.length_cells] | rfl)) rfl (by simp only [Col.length_cells]) (Col.cells_one _) ?_
          intro a ht w hm
          have hS : Ms X (fps []) w0 [.vec As0_1 cs0_2 2 1 ms0_3 (ints ((ls0_4.set (Int.toNat 0) q_).set q_.toNat 0)), .vec As0_5 cs0_6 2 1 ms0_7 (ints ((ls0_8.set (Int.toNat 0) p).set p.toNat 0)), .blk b1 27 (Col.cells x)] [] w := (hm.pick [2, 3, 4] rfl (by decide)).pickφ [] rfl
          refine wpList_nil (qn ⟨hS, ?_⟩)
          refine wph_one (i := 9) (by kernel_rfl) (wph_step rfl ?_)
          refine wpl_store_whole 0 rfl rfl ht hm rfl rfl rfl (szn_27.trans (by first | rw [Col.length_cells] | rfl)) rfl (by simp only [Col.length_cells]) (Col.cells_one _) ?_
          intro a ht w hm
          have hS : Ms X (fps []) w0 [.vec As0_1 cs0_2 2 1 ms0_3 (ints ((ls0_4.set (Int.toNat 0) q_).set q_.toNat 0)), .vec As0_5 cs0_6 2 1 ms0_7 (ints ((ls0_8.set (Int.toNat 0) p).set p.toNat 0)), .blk b1 27 (Col.cells x)] [] w := (hm.pick [2, 3, 4] rfl (by decide)).pickφ [] rfl
          refine wpList_nil (qn ⟨hS, ?_⟩)
          refine wph_done (by kernel_rfl) ?_
          replace hm := hm.pick (own' := [.blk b6520 27 (Col.cells t2520), .blk b7520 27 (Col.cells t5520), .vec As0_1 cs0_2 2 1 ms0_3 (ints ((ls0_4.set (Int.toNat 0) q_).set q_.toNat 0)), .vec As0_5 cs0_6 2 1 ms0_7 (ints ((ls0_8.set (Int.toNat 0) p).set p.toNat 0)), .blk b1 27 (Col.cells x)]) [1, 0, 2, 3, 4] rfl (by decide)
          refine then_normal ?_
          refine wp_seq ?_
          refine wph_begin (fun w => Ms X (fps []) w0 [.blk b6520 27 (Col.cells t2520), .blk b7520 27 (Col.cells t5520), .vec As0_1 cs0_2 2 1 ms0_3 (ints ((ls0_4.set (Int.toNat 0) q_).set q_.toNat 0)), .vec As0_5 cs0_6 2 1 ms0_7 (ints ((ls0_8.set (Int.toNat 0) p).set p.toNat 0)), .blk b1 27 (Col.cells x)] [] w) mixed ?_
          replace hm := hm.drew
          have hS : Ms X (fps []) w0 [.blk b6520 27 (Col.cells t2520), .blk b7520 27 (Col.cells t5520), .vec As0_1 cs0_2 2 1 ms0_3 (ints ((ls0_4.set (Int.toNat 0) q_).set q_.toNat 0)), .vec As0_5 cs0_6 2 1 ms0_7 (ints ((ls0_8.set (Int.toNat 0) p).set p.toNat 0)), .blk b1 27 (Col.cells x)] [] w.drew := (hm.pick [0, 1, 2, 3, 4] rfl (by decide)).pickφ [] rfl
          generalize w.drew = w at hm hS ⊢
          refine wph_take (i := 0) rfl (by kernel_rfl) (by kernel_rfl) (by kernel_rfl) (fun _ _ _ h => h) rfl ht hS (wanted_plain rfl) (fun w hm => ev_load_agg ht rfl rfl (ag_27.trans (by first | rw [Col.length_cells] | rfl)) (hm.blk_all 0 rfl)) ?_
          intro a ht
          refine wph_take (i := 1) rfl (by kernel_rfl) (by kernel_rfl) (by kernel_rfl) (fun _ _ _ h => h) rfl ht hS (wanted_plain rfl) (fun w hm => ev_load_agg ht rfl rfl (ag_27.trans (by first | rw [Col.length_cells] | rfl)) (hm.blk_all 1 rfl)) ?_
          intro a ht
          refine wph_take (i := 2) rfl (by kernel_rfl) (by kernel_rfl) (by kernel_rfl) (fun _ _ _ h => h) rfl ht hS (wanted_plain rfl) (fun w hm => ev_load_agg ht rfl rfl (ag_27.trans (by first | rw [Col.length_cells] | rfl)) (hm.blk_all 0 rfl)) ?_
          intro a ht
          refine wph_take (i := 4) rfl (by kernel_rfl) (by kernel_rfl) (by kernel_rfl) (fun _ _ _ h => h) rfl ht hS (wanted_plain rfl) (fun w hm => ev_load_agg ht rfl rfl (ag_27.trans (by first | rw [Col.length_cells] | rfl)) (hm.blk_all 1 rfl)) ?_
          intro a ht
          refine wph_one (i := 3) (by kernel_rfl) (wph_step rfl ?_)
          obtain ⟨t14520, et14520, H⟩ := bind_get H
          have hcall := spec_l06Types.calls q4 _ _ t2520 _ ((fun (hq : Ms _ _ _ ([] ++ [.blk b6520 27 (Col.cells t2520), .blk b7520 27 (Col.cells t5520), .vec As0_1 cs0_2 2 1 ms0_3 (ints ((ls0_4.set (Int.toNat 0) q_).set q_.toNat 0)), .vec As0_5 cs0_6 2 1 ms0_7 (ints ((ls0_8.set (Int.toNat 0) p).set p.toNat 0)), .blk b1 27 (Col.cells x)]) _ _) => hq.lend (φp := []) (allRO_nil)) (hm.pick (own' := [] ++ [.blk b6520 27 (Col.cells t2520), .blk b7520 27 (Col.cells t5520), .vec As0_1 cs0_2 2 1 ms0_3 (ints ((ls0_4.set (Int.toNat 0) q_).set q_.toNat 0)), .vec As0_5 cs0_6 2 1 ms0_7 (ints ((ls0_8.set (Int.toNat 0) p).set p.toNat 0)), .blk b1 27 (Col.cells x)]) [0, 1, 2, 3, 4] rfl (by decide))) et14520
          refine wpl_call _ rfl rfl ht rfl rfl rfl rfl can_44 hcall ?_
          clear hcall
          rintro _ w ⟨A14521, c14522, m14523, rfl, hpost⟩ a ht
          replace hm := (hm.pick (own' := [] ++ [.blk b6520 27 (Col.cells t2520), .blk b7520 27 (Col.cells t5520), .vec As0_1 cs0_2 2 1 ms0_3 (ints ((ls0_4.set (Int.toNat 0) q_).set q_.toNat 0)), .vec As0_5 cs0_6 2 1 ms0_7 (ints ((ls0_8.set (Int.toNat 0) p).set p.toNat 0)), .blk b1 27 (Col.cells x)]) [0, 1, 2, 3, 4] rfl (by decide)).backL hpost
          clear hpost
          have hS : Ms X (fps []) w0 [.blk b6520 27 (Col.cells t2520), .blk b7520 27 (Col.cells t5520), .vec As0_1 cs0_2 2 1 ms0_3 (ints ((ls0_4.set (Int.toNat 0) q_).set q_.toNat 0)), .vec As0_5 cs0_6 2 1 ms0_7 (ints ((ls0_8.set (Int.toNat 0) p).set p.toNat 0)), .blk b1 27 (Col.cells x)] [] w := (hm.pick [1, 2, 3, 4, 5] rfl (by decide)).pickφ [] rfl
          refine wpList_nil (qn ⟨hS, ?_⟩)
          refine wph_one (i := 5) (by kernel_rfl) (wph_step rfl ?_)
          obtain ⟨t16520, et16520, H⟩ := bind_get H
          have hcall := spec_l06Types.calls q4 _ _ t5520 _ ((fun (hq : Ms _ _ _ ([] ++ [.vec A14521 c14522 2 1 m14523 (ints t14520), .blk b6520 27 (Col.cells t2520), .blk b7520 27 (Col.cells t5520), .vec As0_1 cs0_2 2 1 ms0_3 (ints ((ls0_4.set (Int.toNat 0) q_).set q_.toNat 0)), .vec As0_5 cs0_6 2 1 ms0_7 (ints ((ls0_8.set (Int.toNat 0) p).set p.toNat 0)), .blk b1 27 (Col.cells x)]) _ _) => hq.lend (φp := []) (allRO_nil)) (hm.pick (own' := [] ++ [.vec A14521 c14522 2 1 m14523 (ints t14520), .blk b6520 27 (Col.cells t2520), .blk b7520 27 (Col.cells t5520), .vec As0_1 cs0_2 2 1 ms0_3 (ints ((ls0_4.set (Int.toNat 0) q_).set q_.toNat 0)), .vec As0_5 cs0_6 2 1 ms0_7 (ints ((ls0_8.set (Int.toNat 0) p).set p.toNat 0)), .blk b1 27 (Col.cells x)]) [0, 1, 2, 3, 4, 5] rfl (by decide))) et16520
          refine wpl_call _ rfl rfl ht rfl rfl rfl rfl can_44 hcall ?_
          clear hcall
          rintro _ w ⟨A16521, c16522, m16523, rfl, hpost⟩ a ht
          replace hm := (hm.pick (own' := [] ++ [.vec A14521 c14522 2 1 m14523 (ints t14520), .blk b6520 27 (Col.cells t2520), .blk b7520 27 (Col.cells t5520), .vec As0_1 cs0_2 2 1 ms0_3 (ints ((ls0_4.set (Int.toNat 0) q_).set q_.toNat 0)), .vec As0_5 cs0_6 2 1 ms0_7 (ints ((ls0_8.set (Int.toNat 0) p).set p.toNat 0)), .blk b1 27 (Col.cells x)]) [0, 1, 2, 3, 4, 5] rfl (by decide)).backL hpost
          clear hpost
          have hS : Ms X (fps []) w0 [.blk b6520 27 (Col.cells t2520), .blk b7520 27 (Col.cells t5520), .vec As0_1 cs0_2 2 1 ms0_3 (ints ((ls0_4.set (Int.toNat 0) q_).set q_.toNat 0)), .vec As0_5 cs0_6 2 1 ms0_7 (ints ((ls0_8.set (Int.toNat 0) p).set p.toNat 0)), .blk b1 27 (Col.cells x)] [] w := (hm.pick [2, 3, 4, 5, 6] rfl (by decide)).pickφ [] rfl
          refine wpList_nil (qn ⟨hS, ?_⟩)
          refine wph_take (i := 6) rfl (by kernel_rfl) (by kernel_rfl) (by kernel_rfl) (fun _ _ _ h => h) rfl ht hS (wanted_plain rfl) (fun w hm => ev_build (vs := (Col.cells t2520 ++ (Col.cells t5520 ++ ([.slice A14521 m14523 c14522, .slice A16521 m16523 c16522, .int .i64 1, .int .i64 0, .slice none 0 0])))) ht rfl bi_45 rfl (fill_two _ _ _ _ _ _ _ _ _ _ rfl rfl rfl)) ?_
          intro a ht
          refine wph_one (i := 7) (by kernel_rfl) (wph_step rfl ?_)
          refine wpl_box rfl rfl ht hm rfl rfl rfl ?_
          intro b18520 a ht w hm
          have hS : Ms X (fps []) w0 [.blk b6520 27 (Col.cells t2520), .blk b7520 27 (Col.cells t5520), .vec As0_1 cs0_2 2 1 ms0_3 (ints ((ls0_4.set (Int.toNat 0) q_).set q_.toNat 0)), .vec As0_5 cs0_6 2 1 ms0_7 (ints ((ls0_8.set (Int.toNat 0) p).set p.toNat 0)), .blk b1 27 (Col.cells x)] [] w := (hm.pick [3, 4, 5, 6, 7] rfl (by decide)).pickφ [] rfl
          refine wpList_nil (qn ⟨hS, ?_⟩)
          refine wph_take (i := 8) rfl (by kernel_rfl) (by kernel_rfl) (by kernel_rfl) (fun _ _ _ h => h) rfl ht hS (wanted_plain rfl) (fun w hm => ev_assign ht rfl rfl) ?_
          intro a ht
          refine wph_done (by kernel_rfl) ?_
          replace hm := hm.pick (own' := [.vec A14521 c14522 2 1 m14523 (ints t14520), .vec A16521 c16522 2 1 m16523 (ints t16520), .blk b18520 45 (Col.cells t2520 ++ (Col.cells t5520 ++ ([.slice A14521 m14523 c14522, .slice A16521 m16523 c16522, .int .i64 1, .int .i64 0, .slice none 0 0]))), .blk b6520 27 (Col.cells t2520), .blk b7520 27 (Col.cells t5520), .vec As0_1 cs0_2 2 1 ms0_3 (ints ((ls0_4.set (Int.toNat 0) q_).set q_.toNat 0)), .vec As0_5 cs0_6 2 1 ms0_7 (ints ((ls0_8.set (Int.toNat 0) p).set p.toNat 0)), .blk b1 27 (Col.cells x)]) [2, 1, 0, 3, 4, 5, 6, 7] rfl (by decide)
          refine then_normal ?_
          refine wp_seq ?_
          refine wp_seq ?_
          refine wph_begin (fun w => Ms X (fps []) w0 [.vec A14521 c14522 2 1 m14523 (ints t14520), .vec A16521 c16522 2 1 m16523 (ints t16520), .blk b18520 45 (Col.cells t2520 ++ (Col.cells t5520 ++ ([.slice A14521 m14523 c14522, .slice A16521 m16523 c16522, .int .i64 1, .int .i64 0, .slice none 0 0]))), .blk b6520 27 (Col.cells t2520), .blk b7520 27 (Col.cells t5520), .vec As0_1 cs0_2 2 1 ms0_3 (ints ((ls0_4.set (Int.toNat 0) q_).set q_.toNat 0)), .vec As0_5 cs0_6 2 1 ms0_7 (ints ((ls0_8.set (Int.toNat 0) p).set p.toNat 0)), .blk b1 27 (Col.cells x)] [] w) mixed ?_
          replace hm := hm.drew
          have hS : Ms X (fps []) w0 [.vec A14521 c14522 2 1 m14523 (ints t14520), .vec A16521 c16522 2 1 m16523 (ints t16520), .blk b18520 45 (Col.cells t2520 ++ (Col.cells t5520 ++ ([.slice A14521 m14523 c14522, .slice A16521 m16523 c16522, .int .i64 1, .int .i64 0, .slice none 0 0]))), .blk b6520 27 (Col.cells t2520), .blk b7520 27 (Col.cells t5520), .vec As0_1 cs0_2 2 1 ms0_3 (ints ((ls0_4.set (Int.toNat 0) q_).set q_.toNat 0)), .vec As0_5 cs0_6 2 1 ms0_7 (ints ((ls0_8.set (Int.toNat 0) p).set p.toNat 0)), .blk b1 27 (Col.cells x)] [] w.drew := (hm.pick [0, 1, 2, 3, 4, 5, 6, 7] rfl (by decide)).pickφ [] rfl
          generalize w.drew = w at hm hS ⊢
          refine wph_take (i := 0) rfl (by kernel_rfl) (by kernel_rfl) (by kernel_rfl) (fun _ _ _ h => h) rfl ht hS (wanted_plain rfl) (fun w hm => ev_move ht rfl rfl) ?_
          intro a ht
          refine wph_take (i := 1) rfl (by kernel_rfl) (by kernel_rfl) (by kernel_rfl) (fun _ _ _ h => h) rfl ht hS (wanted_plain rfl) (fun w hm => ev_nilCheck ht rfl rfl) ?_
          intro a ht
          refine wph_take (i := 2) rfl (by kernel_rfl) (by kernel_rfl) (by kernel_rfl) (fun _ _ _ h => h) rfl ht hS (wanted_plain rfl) (fun w hm => ev_fieldAddr ht rfl rfl fo_45_2) ?_
          intro a ht
          refine wph_take (i := 3) rfl (by kernel_rfl) (by kernel_rfl) (by kernel_rfl) (fun _ _ _ h => h) rfl ht hS (wanted_plain rfl) (fun w hm => ev_load ht rfl rfl sc_43 (hm.blk_cell 2 rfl ((seg_col _ _ 138).trans ((seg_col _ _ 0).trans rfl)))) ?_
          intro a ht
          obtain ⟨t21020, et21020, H⟩ := bind_get H
          refine wph_take (i := 4) rfl (by kernel_rfl) (by kernel_rfl) (by kernel_rfl) (fun _ _ _ h => h) rfl ht hS (wanted_plain rfl) (fun w hm => ev_index_ints ht rfl rfl rfl so_43 (hm.vec_row 0 rfl) et21020) ?_
          intro a ht
          refine wph_take (i := 5) rfl (by kernel_rfl) (by kernel_rfl) (by kernel_rfl) (fun _ _ _ h => h) rfl ht hS (wanted_plain rfl) (fun w hm => ev_load ht rfl rfl sc_2 (RowAt.cell (hm.vec_row 0 rfl) (ints_get et21020) rfl)) ?_
          intro a ht
          refine wph_take (i := 6) rfl (by kernel_rfl) (by kernel_rfl) (by kernel_rfl) (fun _ _ _ h => h) rfl ht hS (wanted_plain rfl) (fun w hm => ev_move ht rfl rfl) ?_
          intro a ht
          refine wph_take (i := 7) rfl (by kernel_rfl) (by kernel_rfl) (by kernel_rfl) (fun _ _ _ h => h) rfl ht hS (wanted_plain rfl) (fun w hm => ev_nilCheck ht rfl rfl) ?_
          intro a ht
          refine wph_take (i := 8) rfl (by kernel_rfl) (by kernel_rfl) (by kernel_rfl) (fun _ _ _ h => h) rfl ht hS (wanted_plain rfl) (fun w hm => ev_fieldAddr ht rfl rfl fo_45_3) ?_
          intro a ht
          refine wph_take (i := 9) rfl (by kernel_rfl) (by kernel_rfl) (by kernel_rfl) (fun _ _ _ h => h) rfl ht hS (wanted_plain rfl) (fun w hm => ev_load ht rfl rfl sc_43 (hm.blk_cell 2 rfl ((seg_col _ _ 139).trans ((seg_col _ _ 1).trans rfl)))) ?_
          intro a ht
          obtain ⟨t21021, et21021, H⟩ := bind_get H
          refine wph_take (i := 10) rfl (by kernel_rfl) (by kernel_rfl) (by kernel_rfl) (fun _ _ _ h => h) rfl ht hS (wanted_plain rfl) (fun w hm => ev_index_ints ht rfl rfl rfl so_43 (hm.vec_row 1 rfl) et21021) ?_
          intro a ht
          refine wph_take (i := 11) rfl (by kernel_rfl) (by kernel_rfl) (by kernel_rfl) (fun _ _ _ h => h) rfl ht hS (wanted_plain rfl) (fun w hm => ev_load ht rfl rfl sc_2 (RowAt.cell (hm.vec_row 1 rfl) (ints_get et21021) rfl)) ?_
          intro a ht
          refine wph_take (i := 12) rfl (by kernel_rfl) (by kernel_rfl) (by kernel_rfl) (fun _ _ _ h => h) rfl ht hS (wanted_plain rfl) (fun w hm => ev_cmp ht rfl rfl rfl rfl) ?_
          intro a ht
          refine wph_done (by kernel_rfl) ?_
          refine then_normal ?_
          by_cases h21022 : t21020 = t21021
          · replace H := ite_yes h21022 H
            refine wpc_yes ht rfl (decide_eq_true h21022) ?_
            refine wpr ?_
            refine wpl rfl rfl ht (ev_move ht rfl rfl) ?_
            intro a ht
            refine wpl_build_ints (l := [0]) rfl rfl ht hm rfl und_43 zo_2 sz1_2 (by decide) rfl rfl rfl ?_
            intro A21023 a ht w hm
            replace hm : Ms _ _ _ _ (IntsAt A14521 c14522 m14523 t14520 :: _) w := hm.shutVec 1 rfl
            replace hm : Ms _ _ _ _ (IntsAt A16521 c16522 m16523 t16520 :: _) w := hm.shutVec 1 rfl
            replace hm : Ms _ _ _ _ (IntsAt A21023 1 1 ([0]) :: _) w := hm.shutVec 0 rfl
            replace hm : Ms _ _ _ _ (IntsAt none 0 0 ([] : List Int) :: _) w := hm.nilRow none 1
            obtain ⟨t21025, et21025, H⟩ := bind_get H
            have hcall := spec_l06Go.calls q4 _ _ b18520 A14521 c14522 m14523 A16521 c16522 m16523 none 0 0 A21023 1 1 t2520 t5520 t14520 t16520 1 0 ([]) ([0]) 1 _ ((hm.pick (own' := [.blk b18520 45 (Col.cells t2520 ++ (Col.cells t5520 ++ ([.slice A14521 m14523 c14522, .slice A16521 m16523 c16522, .int .i64 1, .int .i64 0, .slice none 0 0])))] ++ [.blk b6520 27 (Col.cells t2520), .blk b7520 27 (Col.cells t5520), .vec As0_1 cs0_2 2 1 ms0_3 (ints ((ls0_4.set (Int.toNat 0) q_).set q_.toNat 0)), .vec As0_5 cs0_6 2 1 ms0_7 (ints ((ls0_8.set (Int.toNat 0) p).set p.toNat 0)), .blk b1 27 (Col.cells x)]) [0, 1, 2, 3, 4, 5] rfl (by decide)).give (passed := [.blk b18520 45 (Col.cells t2520 ++ (Col.cells t5520 ++ ([.slice A14521 m14523 c14522, .slice A16521 m16523 c16522, .int .i64 1, .int .i64 0, .slice none 0 0])))]) (rest := [.blk b6520 27 (Col.cells t2520), .blk b7520 27 (Col.cells t5520), .vec As0_1 cs0_2 2 1 ms0_3 (ints ((ls0_4.set (Int.toNat 0) q_).set q_.toNat 0)), .vec As0_5 cs0_6 2 1 ms0_7 (ints ((ls0_8.set (Int.toNat 0) p).set p.toNat 0)), .blk b1 27 (Col.cells x)]) (φp := [IntsAt A14521 c14522 m14523 t14520, IntsAt A16521 c16522 m16523 t16520, IntsAt none 0 0 ([] : List Int), IntsAt A21023 1 1 ([0])]) [3, 2, 0, 1] rfl) et21025
            refine wpl_call _ rfl rfl ht rfl rfl rfl rfl can_45 hcall ?_
            clear hcall
            rintro _ w ⟨A21026, c21027, m21028, A21029, c21030, m21031, A21032, c21033, m21034, rfl, hpost⟩ a ht
            replace hm := (hm.pick (own' := [.blk b18520 45 (Col.cells t2520 ++ (Col.cells t5520 ++ ([.slice A14521 m14523 c14522, .slice A16521 m16523 c16522, .int .i64 1, .int .i64 0, .slice none 0 0])))] ++ [.blk b6520 27 (Col.cells t2520), .blk b7520 27 (Col.cells t5520), .vec As0_1 cs0_2 2 1 ms0_3 (ints ((ls0_4.set (Int.toNat 0) q_).set q_.toNat 0)), .vec As0_5 cs0_6 2 1 ms0_7 (ints ((ls0_8.set (Int.toNat 0) p).set p.toNat 0)), .blk b1 27 (Col.cells x)]) [0, 1, 2, 3, 4, 5] rfl (by decide)).back hpost
            clear hpost
            refine wpList_nil ?_
            refine then_normal ?_
            refine wp_seq ?_
            refine wpr ?_
            refine wpl rfl rfl ht (ev_move ht rfl rfl) ?_
            intro a ht
            refine wpl rfl rfl ht (ev_nilCheck ht rfl rfl) ?_
            intro a ht
            refine wpl rfl rfl ht (ev_fieldAddr ht rfl rfl fo_45_5) ?_
            intro a ht
            refine wpl rfl rfl ht (ev_load ht rfl rfl sc_2 (hm.blk_cell 0 rfl ((seg_col _ _ 141).trans ((seg_col _ _ 3).trans rfl)))) ?_
            intro a ht
            refine wpl rfl rfl ht (ev_cmp ht rfl rfl rfl rfl) ?_
            intro a ht
            refine wpl rfl rfl ht (ev_assign ht rfl rfl) ?_
            intro a ht
            refine wpList_nil ?_
            refine then_normal ?_
            refine wp_ret ?_
            have hres := ht.res (P := Try.prog) (w := w) (rs := [.tmp 6]) (vs := [.bool (decide (t21025.2.2.2.2.2.1 > 0))]) (.tmp rfl .nil)
            obtain rfl := Option.some.inj H
            exact leave ht rfl hres ⟨rfl, ((hm.pick [] rfl (by decide)).pickφ [] rfl).post fun _ h => h⟩
          · replace H := ite_no h21022 H
            refine wpc_no ht rfl (decide_eq_false h21022) ?_
            refine wp_skip ?_
            refine then_normal ?_
            refine wp_seq ?_
            refine wpr ?_
            refine wpl rfl rfl ht (ev_move ht rfl rfl) ?_
            intro a ht
            refine wpl rfl rfl ht (ev_nilCheck ht rfl rfl) ?_
            intro a ht
            refine wpl rfl rfl ht (ev_fieldAddr ht rfl rfl fo_45_5) ?_
            intro a ht
            refine wpl rfl rfl ht (ev_load ht rfl rfl sc_2 (hm.blk_cell 2 rfl ((seg_col _ _ 141).trans ((seg_col _ _ 3).trans rfl)))) ?_
            intro a ht
            refine wpl rfl rfl ht (ev_cmp (r := false) ht rfl rfl rfl (by decide)) ?_
            intro a ht
            refine wpl rfl rfl ht (ev_assign ht rfl rfl) ?_
            intro a ht
            refine wpList_nil ?_
            refine then_normal ?_
            refine wp_ret ?_
            have hres := ht.res (P := Try.prog) (w := w) (rs := [.tmp 6]) (vs := [.bool false]) (.tmp rfl .nil)
            obtain rfl := Option.some.inj H
            exact leave ht rfl hres ⟨rfl, ((hm.pick [] rfl (by decide)).pickφ [] rfl).post fun _ h => h⟩
      · refine wph_step rfl ?_
        refine wpl_alloc rfl rfl ht hm rfl zo_27 ?_
        intro b7520 a ht w hm
        have hS : Ms X (fps []) w0 [.vec As0_1 cs0_2 2 1 ms0_3 (ints ((ls0_4.set (Int.toNat 0) q_).set q_.toNat 0)), .vec As0_5 cs0_6 2 1 ms0_7 (ints ((ls0_8.set (Int.toNat 0) p).set p.toNat 0)), .blk b1 27 (Col.cells x)] [] w := (hm.pick [1, 2, 3] rfl (by decide)).pickφ [] rfl
        refine wpList_nil (qn ⟨hS, ?_⟩)
        refine wph_two (i := 5) (j := 6) (by kernel_rfl) ?_ ?_ 
        · refine wph_step rfl ?_
          obtain ⟨t5520, et5520, H⟩ := bind_get H
          have hcall := spec_l01Renamed.calls q4 _ _ As0_1 cs0_2 ms0_3 x ((ls0_4.set (Int.toNat 0) q_).set q_.toNat 0) _ ((fun (hq : Ms _ _ _ ([] ++ [.blk b7520 27 (Col.cells Col.zero), .vec As0_1 cs0_2 2 1 ms0_3 (ints ((ls0_4.set (Int.toNat 0) q_).set q_.toNat 0)), .vec As0_5 cs0_6 2 1 ms0_7 (ints ((ls0_8.set (Int.toNat 0) p).set p.toNat 0)), .blk b1 27 (Col.cells x)]) _ _) => hq.lend (φp := [IntsAt As0_1 cs0_2 ms0_3 ((ls0_4.set (Int.toNat 0) q_).set q_.toNat 0)]) (allRO_cons (hq.lendVec 1 rfl) (allRO_nil))) (hm.pick (own' := [] ++ [.blk b7520 27 (Col.cells Col.zero), .vec As0_1 cs0_2 2 1 ms0_3 (ints ((ls0_4.set (Int.toNat 0) q_).set q_.toNat 0)), .vec As0_5 cs0_6 2 1 ms0_7 (ints ((ls0_8.set (Int.toNat 0) p).set p.toNat 0)), .blk b1 27 (Col.cells x)]) [0, 1, 2, 3] rfl (by decide))) et5520
          refine wpl_call _ rfl rfl ht rfl rfl rfl rfl can_28 hcall ?_
          clear hcall
          rintro _ w ⟨rfl, hpost⟩ a ht
          replace hm := (hm.pick (own' := [] ++ [.blk b7520 27 (Col.cells Col.zero), .vec As0_1 cs0_2 2 1 ms0_3 (ints ((ls0_4.set (Int.toNat 0) q_).set q_.toNat 0)), .vec As0_5 cs0_6 2 1 ms0_7 (ints ((ls0_8.set (Int.toNat 0) p).set p.toNat 0)), .blk b1 27 (Col.cells x)]) [0, 1, 2, 3] rfl (by decide)).backL hpost
          clear hpost
          have hS : Ms X (fps []) w0 [.vec As0_1 cs0_2 2 1 ms0_3 (ints ((ls0_4.set (Int.toNat 0) q_).set q_.toNat 0)), .vec As0_5 cs0_6 2 1 ms0_7 (ints ((ls0_8.set (Int.toNat 0) p).set p.toNat 0)), .blk b1 27 (Col.cells x)] [] w := (hm.pick [1, 2, 3] rfl (by decide)).pickφ [] rfl
          refine wpList_nil (qn ⟨hS, ?_⟩)
          refine wph_one (i := 6) (by kernel_rfl) (wph_step rfl ?_)
          refine wpl_alloc rfl rfl ht hm rfl zo_27 ?_
          intro b6520 a ht w hm
          have hS : Ms X (fps []) w0 [.vec As0_1 cs0_2 2 1 ms0_3 (ints ((ls0_4.set (Int.toNat 0) q_).set q_.toNat 0)), .vec As0_5 cs0_6 2 1 ms0_7 (ints ((ls0_8.set (Int.toNat 0) p).set p.toNat 0)), .blk b1 27 (Col.cells x)] [] w := (hm.pick [2, 3, 4] rfl (by decide)).pickφ [] rfl
          refine wpList_nil (qn ⟨hS, ?_⟩)
          refine wph_one (i := 8) (by kernel_rfl) (wph_step rfl ?_)
          refine wpl_store_whole 0 rfl rfl ht hm rfl rfl rfl (szn_27.trans (by first | rw [Col.length_cells] | rfl)) rfl (by simp only [Col.length_cells]) (Col.cells_one _) ?_
          intro a ht w hm
          have hS : Ms X (fps []) w0 [.vec As0_1 cs0_2 2 1 ms0_3 (ints ((ls0_4.set (Int.toNat 0) q_).set q_.toNat 0)), .vec As0_5 cs0_6 2 1 ms0_7 (ints ((ls0_8.set (Int.toNat 0) p).set p.toNat 0)), .blk b1 27 (Col.cells x)] [] w := (hm.pick [2, 3, 4] rfl (by decide)).pickφ [] rfl
          refine wpList_nil (qn ⟨hS, ?_⟩)
          refine wph_one (i := 9) (by kernel_rfl) (wph_step rfl ?_)
          refine wpl_store_whole 1 rfl rfl ht hm rfl rfl rfl (szn_27.trans (by first | rw [Col.length_cells] | rfl)) rfl (by simp only [Col.length_cells]) (Col.cells_one _) ?_
          intro a ht w hm
          have hS : Ms X (fps []) w0 [.vec As0_1 cs0_2 2 1 ms0_3 (ints ((ls0_4.set (Int.toNat 0) q_).set q_.toNat 0)), .vec As0_5 cs0_6 2 1 ms0_7 (ints ((ls0_8.set (Int.toNat 0) p).set p.toNat 0)), .blk b1 27 (Col.cells x)] [] w := (hm.pick [2, 3, 4] rfl (by decide)).pickφ [] rfl
          refine wpList_nil (qn ⟨hS, ?_⟩)
          refine wph_done (by kernel_rfl) ?_
          refine then_normal ?_
          refine wp_seq ?_
          refine wph_begin (fun w => Ms X (fps []) w0 [.blk b6520 27 (Col.cells t2520), .blk b7520 27 (Col.cells t5520), .vec As0_1 cs0_2 2 1 ms0_3 (ints ((ls0_4.set (Int.toNat 0) q_).set q_.toNat 0)), .vec As0_5 cs0_6 2 1 ms0_7 (ints ((ls0_8.set (Int.toNat 0) p).set p.toNat 0)), .blk b1 27 (Col.cells x)] [] w) mixed ?_
          replace hm := hm.drew
          have hS : Ms X (fps []) w0 [.blk b6520 27 (Col.cells t2520), .blk b7520 27 (Col.cells t5520), .vec As0_1 cs0_2 2 1 ms0_3 (ints ((ls0_4.set (Int.toNat 0) q_).set q_.toNat 0)), .vec As0_5 cs0_6 2 1 ms0_7 (ints ((ls0_8.set (Int.toNat 0) p).set p.toNat 0)), .blk b1 27 (Col.cells x)] [] w.drew := (hm.pick [0, 1, 2, 3, 4] rfl (by decide)).pickφ [] rfl
          generalize w.drew = w at hm hS ⊢
          refine wph_take (i := 0) rfl (by kernel_rfl) (by kernel_rfl) (by kernel_rfl) (fun _ _ _ h => h) rfl ht hS (wanted_plain rfl) (fun w hm => ev_load_agg ht rfl rfl (ag_27.trans (by first | rw [Col.length_cells] | rfl)) (hm.blk_all 0 rfl)) ?_
          intro a ht
          refine wph_take (i := 1) rfl (by kernel_rfl) (by kernel_rfl) (by kernel_rfl) (fun _ _ _ h => h) rfl ht hS (wanted_plain rfl) (fun w hm => ev_load_agg ht rfl rfl (ag_27.trans (by first | rw [Col.length_cells] | rfl)) (hm.blk_all 1 rfl)) ?_
          intro a ht
          refine wph_take (i := 2) rfl (by kernel_rfl) (by kernel_rfl) (by kernel_rfl) (fun _ _ _ h => h) rfl ht hS (wanted_plain rfl) (fun w hm => ev_load_agg ht rfl rfl (ag_27.trans (by first | rw [Col.length_cells] | rfl)) (hm.blk_all 0 rfl)) ?_
          intro a ht
          refine wph_take (i := 4) rfl (by kernel_rfl) (by kernel_rfl) (by kernel_rfl) (fun _ _ _ h => h) rfl ht hS (wanted_plain rfl) (fun w hm => ev_load_agg ht rfl rfl (ag_27.trans (by first | rw [Col.length_cells] | rfl)) (hm.blk_all 1 rfl)) ?_
          intro a ht
          refine wph_one (i := 3) (by kernel_rfl) (wph_step rfl ?_)
          obtain ⟨t14520, et14520, H⟩ := bind_get H
          have hcall := spec_l06Types.calls q4 _ _ t2520 _ ((fun (hq : Ms _ _ _ ([] ++ [.blk b6520 27 (Col.cells t2520), .blk b7520 27 (Col.cells t5520), .vec As0_1 cs0_2 2 1 ms0_3 (ints ((ls0_4.set (Int.toNat 0) q_).set q_.toNat 0)), .vec As0_5 cs0_6 2 1 ms0_7 (ints ((ls0_8.set (Int.toNat 0) p).set p.toNat 0)), .blk b1 27 (Col.cells x)]) _ _) => hq.lend (φp := []) (allRO_nil)) (hm.pick (own' := [] ++ [.blk b6520 27 (Col.cells t2520), .blk b7520 27 (Col.cells t5520), .vec As0_1 cs0_2 2 1 ms0_3 (ints ((ls0_4.set (Int.toNat 0) q_).set q_.toNat 0)), .vec As0_5 cs0_6 2 1 ms0_7 (ints ((ls0_8.set (Int.toNat 0) p).set p.toNat 0)), .blk b1 27 (Col.cells x)]) [0, 1, 2, 3, 4] rfl (by decide))) et14520
          refine wpl_call _ rfl rfl ht rfl rfl rfl rfl can_44 hcall ?_
          clear hcall
          rintro _ w ⟨A14521, c14522, m14523, rfl, hpost⟩ a ht
          replace hm := (hm.pick (own' := [] ++ [.blk b6520 27 (Col.cells t2520), .blk b7520 27 (Col.cells t5520), .vec As0_1 cs0_2 2 1 ms0_3 (ints ((ls0_4.set (Int.toNat 0) q_).set q_.toNat 0)), .vec As0_5 cs0_6 2 1 ms0_7 (ints ((ls0_8.set (Int.toNat 0) p).set p.toNat 0)), .blk b1 27 (Col.cells x)]) [0, 1, 2, 3, 4] rfl (by decide)).backL hpost
          clear hpost
          have hS : Ms X (fps []) w0 [.blk b6520 27 (Col.cells t2520), .blk b7520 27 (Col.cells t5520), .vec As0_1 cs0_2 2 1 ms0_3 (ints ((ls0_4.set (Int.toNat 0) q_).set q_.toNat 0)), .vec As0_5 cs0_6 2 1 ms0_7 (ints ((ls0_8.set (Int.toNat 0) p).set p.toNat 0)), .blk b1 27 (Col.cells x)] [] w := (hm.pick [1, 2, 3, 4, 5] rfl (by decide)).pickφ [] rfl
          refine wpList_nil (qn ⟨hS, ?_⟩)
          refine wph_one (i := 5) (by kernel_rfl) (wph_step rfl ?_)
          obtain ⟨t16520, et16520, H⟩ := bind_get H
          have hcall := spec_l06Types.calls q4 _ _ t5520 _ ((fun (hq : Ms _ _ _ ([] ++ [.vec A14521 c14522 2 1 m14523 (ints t14520), .blk b6520 27 (Col.cells t2520), .blk b7520 27 (Col.cells t5520), .vec As0_1 cs0_2 2 1 ms0_3 (ints ((ls0_4.set (Int.toNat 0) q_).set q_.toNat 0)), .vec As0_5 cs0_6 2 1 ms0_7 (ints ((ls0_8.set (Int.toNat 0) p).set p.toNat 0)), .blk b1 27 (Col.cells x)]) _ _) => hq.lend (φp := []) (allRO_nil)) (hm.pick (own' := [] ++ [.vec A14521 c14522 2 1 m14523 (ints t14520), .blk b6520 27 (Col.cells t2520), .blk b7520 27 (Col.cells t5520), .vec As0_1 cs0_2 2 1 ms0_3 (ints ((ls0_4.set (Int.toNat 0) q_).set q_.toNat 0)), .vec As0_5 cs0_6 2 1 ms0_7 (ints ((ls0_8.set (Int.toNat 0) p).set p.toNat 0)), .blk b1 27 (Col.cells x)]) [0, 1, 2, 3, 4, 5] rfl (by decide))) et16520
          refine wpl_call _ rfl rfl ht rfl rfl rfl rfl can_44 hcall ?_
          clear hcall
          rintro _ w ⟨A16521, c16522, m16523, rfl, hpost⟩ a ht
          replace hm := (hm.pick (own' := [] ++ [.vec A14521 c14522 2 1 m14523 (ints t14520), .blk b6520 27 (Col.cells t2520), .blk b7520 27 (Col.cells t5520), .vec As0_1 cs0_2 2 1 ms0_3 (ints ((ls0_4.set (Int.toNat 0) q_).set q_.toNat 0)), .vec As0_5 cs0_6 2 1 ms0_7 (ints ((ls0_8.set (Int.toNat 0) p).set p.toNat 0)), .blk b1 27 (Col.cells x)]) [0, 1, 2, 3, 4, 5] rfl (by decide)).backL hpost
          clear hpost
          have hS : Ms X (fps []) w0 [.blk b6520 27 (Col.cells t2520), .blk b7520 27 (Col.cells t5520), .vec As0_1 cs0_2 2 1 ms0_3 (ints ((ls0_4.set (Int.toNat 0) q_).set q_.toNat 0)), .vec As0_5 cs0_6 2 1 ms0_7 (ints ((ls0_8.set (Int.toNat 0) p).set p.toNat 0)), .blk b1 27 (Col.cells x)] [] w := (hm.pick [2, 3, 4, 5, 6] rfl (by decide)).pickφ [] rfl
          refine wpList_nil (qn ⟨hS, ?_⟩)
          refine wph_take (i := 6) rfl (by kernel_rfl) (by kernel_rfl) (by kernel_rfl) (fun _ _ _ h => h) rfl ht hS (wanted_plain rfl) (fun w hm => ev_build (vs := (Col.cells t2520 ++ (Col.cells t5520 ++ ([.slice A14521 m14523 c14522, .slice A16521 m16523 c16522, .int .i64 1, .int .i64 0, .slice none 0 0])))) ht rfl bi_45 rfl (fill_two _ _ _ _ _ _ _ _ _ _ rfl rfl rfl)) ?_
          intro a ht
          refine wph_one (i := 7) (by kernel_rfl) (wph_step rfl ?_)
          refine wpl_box rfl rfl ht hm rfl rfl rfl ?_
          intro b18520 a ht w hm
          have hS : Ms X (fps []) w0 [.blk b6520 27 (Col.cells t2520), .blk b7520 27 (Col.cells t5520), .vec As0_1 cs0_2 2 1 ms0_3 (ints ((ls0_4.set (Int.toNat 0) q_).set q_.toNat 0)), .vec As0_5 cs0_6 2 1 ms0_7 (ints ((ls0_8.set (Int.toNat 0) p).set p.toNat 0)), .blk b1 27 (Col.cells x)] [] w := (hm.pick [3, 4, 5, 6, 7] rfl (by decide)).pickφ [] rfl
          refine wpList_nil (qn ⟨hS, ?_⟩)
          refine wph_take (i := 8) rfl (by kernel_rfl) (by kernel_rfl) (by kernel_rfl) (fun _ _ _ h => h) rfl ht hS (wanted_plain rfl) (fun w hm => ev_assign ht rfl rfl) ?_
          intro a ht
          refine wph_done (by kernel_rfl) ?_
          replace hm := hm.pick (own' := [.vec A14521 c14522 2 1 m14523 (ints t14520), .vec A16521 c16522 2 1 m16523 (ints t16520), .blk b18520 45 (Col.cells t2520 ++ (Col.cells t5520 ++ ([.slice A14521 m14523 c14522, .slice A16521 m16523 c16522, .int .i64 1, .int .i64 0, .slice none 0 0]))), .blk b6520 27 (Col.cells t2520), .blk b7520 27 (Col.cells t5520), .vec As0_1 cs0_2 2 1 ms0_3 (ints ((ls0_4.set (Int.toNat 0) q_).set q_.toNat 0)), .vec As0_5 cs0_6 2 1 ms0_7 (ints ((ls0_8.set (Int.toNat 0) p).set p.toNat 0)), .blk b1 27 (Col.cells x)]) [2, 1, 0, 3, 4, 5, 6, 7] rfl (by decide)
          refine then_normal ?_
          refine wp_seq ?_
          refine wp_seq ?_
          refine wph_begin (fun w => Ms X (fps []) w0 [.vec A14521 c14522 2 1 m14523 (ints t14520), .vec A16521 c16522 2 1 m16523 (ints t16520), .blk b18520 45 (Col.cells t2520 ++ (Col.cells t5520 ++ ([.slice A14521 m14523 c14522, .slice A16521 m16523 c16522, .int .i64 1, .int .i64 0, .slice none 0 0]))), .blk b6520 27 (Col.cells t2520), .blk b7520 27 (Col.cells t5520), .vec As0_1 cs0_2 2 1 ms0_3 (ints ((ls0_4.set (Int.toNat 0) q_).set q_.toNat 0)), .vec As0_5 cs0_6 2 1 ms0_7 (ints ((ls0_8.set (Int.toNat 0) p).set p.toNat 0)), .blk b1 27 (Col.cells x)] [] w) mixed ?_
          replace hm := hm.drew
          have hS : Ms X (fps []) w0 [.vec A14521 c14522 2 1 m14523 (ints t14520), .vec A16521 c16522 2 1 m16523 (ints t16520), .blk b18520 45 (Col.cells t2520 ++ (Col.cells t5520 ++ ([.slice A14521 m14523 c14522, .slice A16521 m16523 c16522, .int .i64 1, .int .i64 0, .slice none 0 0]))), .blk b6520 27 (Col.cells t2520), .blk b7520 27 (Col.cells t5520), .vec As0_1 cs0_2 2 1 ms0_3 (ints ((ls0_4.set (Int.toNat 0) q_).set q_.toNat 0)), .vec As0_5 cs0_6 2 1 ms0_7 (ints ((ls0_8.set (Int.toNat 0) p).set p.toNat 0)), .blk b1 27 (Col.cells x)] [] w.drew := (hm.pick [0, 1, 2, 3, 4, 5, 6, 7] rfl (by decide)).pickφ [] rfl
          generalize w.drew = w at hm hS ⊢
          refine wph_take (i := 0) rfl (by kernel_rfl) (by kernel_rfl) (by kernel_rfl) (fun _ _ _ h => h) rfl ht hS (wanted_plain rfl) (fun w hm => ev_move ht rfl rfl) ?_
          intro a ht
          refine wph_take (i := 1) rfl (by kernel_rfl) (by kernel_rfl) (by kernel_rfl) (fun _ _ _ h => h) rfl ht hS (wanted_plain rfl) (fun w hm => ev_nilCheck ht rfl rfl) ?_
          intro a ht
          refine wph_take (i := 2) rfl (by kernel_rfl) (by kernel_rfl) (by kernel_rfl) (fun _ _ _ h => h) rfl ht hS (wanted_plain rfl) (fun w hm => ev_fieldAddr ht rfl rfl fo_45_2) ?_
          intro a ht
          refine wph_take (i := 3) rfl (by kernel_rfl) (by kernel_rfl) (by kernel_rfl) (fun _ _ _ h => h) rfl ht hS (wanted_plain rfl) (fun w hm => ev_load ht rfl rfl sc_43 (hm.blk_cell 2 rfl ((seg_col _ _ 138).trans ((seg_col _ _ 0).trans rfl)))) ?_
          intro a ht
          obtain ⟨t21020, et21020, H⟩ := bind_get H
          refine wph_take (i := 4) rfl (by kernel_rfl) (by kernel_rfl) (by kernel_rfl) (fun _ _ _ h => h) rfl ht hS (wanted_plain rfl) (fun w hm => ev_index_ints ht rfl rfl rfl so_43 (hm.vec_row 0 rfl) et21020) ?_
          intro a ht
          refine wph_take (i := 5) rfl (by kernel_rfl) (by kernel_rfl) (by kernel_rfl) (fun _ _ _ h => h) rfl ht hS (wanted_plain rfl) (fun w hm => ev_load ht rfl rfl sc_2 (RowAt.cell (hm.vec_row 0 rfl) (ints_get et21020) rfl)) ?_
          intro a ht
          refine wph_take (i := 6) rfl (by kernel_rfl) (by kernel_rfl) (by kernel_rfl) (fun _ _ _ h => h) rfl ht hS (wanted_plain rfl) (fun w hm => ev_move ht rfl rfl) ?_
          intro a ht
          refine wph_take (i := 7) rfl (by kernel_rfl) (by kernel_rfl) (by kernel_rfl) (fun _ _ _ h => h) rfl ht hS (wanted_plain rfl) (fun w hm => ev_nilCheck ht rfl rfl) ?_
          intro a ht
          refine wph_take (i := 8) rfl (by kernel_rfl) (by kernel_rfl) (by kernel_rfl) (fun _ _ _ h => h) rfl ht hS (wanted_plain rfl) (fun w hm => ev_fieldAddr ht rfl rfl fo_45_3) ?_
          intro a ht
          refine wph_take (i := 9) rfl (by kernel_rfl) (by kernel_rfl) (by kernel_rfl) (fun _ _ _ h => h) rfl ht hS (wanted_plain rfl) (fun w hm => ev_load ht rfl rfl sc_43 (hm.blk_cell 2 rfl ((seg_col _ _ 139).trans ((seg_col _ _ 1).trans rfl)))) ?_
          intro a ht
          obtain ⟨t21021, et21021, H⟩ := bind_get H
          refine wph_take (i := 10) rfl (by kernel_rfl) (by kernel_rfl) (by kernel_rfl) (fun _ _ _ h => h) rfl ht hS (wanted_plain rfl) (fun w hm => ev_index_ints ht rfl rfl rfl so_43 (hm.vec_row 1 rfl) et21021) ?_
          intro a ht
          refine wph_take (i := 11) rfl (by kernel_rfl) (by kernel_rfl) (by kernel_rfl) (fun _ _ _ h => h) rfl ht hS (wanted_plain rfl) (fun w hm => ev_load ht rfl rfl sc_2 (RowAt.cell (hm.vec_row 1 rfl) (ints_get et21021) rfl)) ?_
          intro a ht
          refine wph_take (i := 12) rfl (by kernel_rfl) (by kernel_rfl) (by kernel_rfl) (fun _ _ _ h => h) rfl ht hS (wanted_plain rfl) (fun w hm => ev_cmp ht rfl rfl rfl rfl) ?_
          intro a ht
          refine wph_done (by kernel_rfl) ?_
          refine then_normal ?_
          by_cases h21022 : t21020 = t21021
          · replace H := ite_yes h21022 H
            refine wpc_yes ht rfl (decide_eq_true h21022) ?_
            refine wpr ?_
            refine wpl rfl rfl ht (ev_move ht rfl rfl) ?_
            intro a ht
            refine wpl_build_ints (l := [0]) rfl rfl ht hm rfl und_43 zo_2 sz1_2 (by decide) rfl rfl rfl ?_
            intro A21023 a ht w hm
            replace hm : Ms _ _ _ _ (IntsAt A14521 c14522 m14523 t14520 :: _) w := hm.shutVec 1 rfl
            replace hm : Ms _ _ _ _ (IntsAt A16521 c16522 m16523 t16520 :: _) w := hm.shutVec 1 rfl
            replace hm : Ms _ _ _ _ (IntsAt A21023 1 1 ([0]) :: _) w := hm.shutVec 0 rfl
            replace hm : Ms _ _ _ _ (IntsAt none 0 0 ([] : List Int) :: _) w := hm.nilRow none 1
            obtain ⟨t21025, et21025, H⟩ := bind_get H
            have hcall := spec_l06Go.calls q4 _ _ b18520 A14521 c14522 m14523 A16521 c16522 m16523 none 0 0 A21023 1 1 t2520 t5520 t14520 t16520 1 0 ([]) ([0]) 1 _ ((hm.pick (own' := [.blk b18520 45 (Col.cells t2520 ++ (Col.cells t5520 ++ ([.slice A14521 m14523 c14522, .slice A16521 m16523 c16522, .int .i64 1, .int .i64 0, .slice none 0 0])))] ++ [.blk b6520 27 (Col.cells t2520), .blk b7520 27 (Col.cells t5520), .vec As0_1 cs0_2 2 1 ms0_3 (ints ((ls0_4.set (Int.toNat 0) q_).set q_.toNat 0)), .vec As0_5 cs0_6 2 1 ms0_7 (ints ((ls0_8.set (Int.toNat 0) p).set p.toNat 0)), .blk b1 27 (Col.cells x)]) [0, 1, 2, 3, 4, 5] rfl (by decide)).give (passed := [.blk b18520 45 (Col.cells t2520 ++ (Col.cells t5520 ++ ([.slice A14521 m14523 c14522, .slice A16521 m16523 c16522, .int .i64 1, .int .i64 0, .slice none 0 0])))]) (rest := [.blk b6520 27 (Col.cells t2520), .blk b7520 27 (Col.cells t5520), .vec As0_1 cs0_2 2 1 ms0_3 (ints ((ls0_4.set (Int.toNat 0) q_).set q_.toNat 0)), .vec As0_5 cs0_6 2 1 ms0_7 (ints ((ls0_8.set (Int.toNat 0) p).set p.toNat 0)), .blk b1 27 (Col.cells x)]) (φp := [IntsAt A14521 c14522 m14523 t14520, IntsAt A16521 c16522 m16523 t16520, IntsAt none 0 0 ([] : List Int), IntsAt A21023 1 1 ([0])]) [3, 2, 0, 1] rfl) et21025
            refine wpl_call _ rfl rfl ht rfl rfl rfl rfl can_45 hcall ?_
            clear hcall
            rintro _ w ⟨A21026, c21027, m21028, A21029, c21030, m21031, A21032, c21033, m21034, rfl, hpost⟩ a ht
            replace hm := (hm.pick (own' := [.blk b18520 45 (Col.cells t2520 ++ (Col.cells t5520 ++ ([.slice A14521 m14523 c14522, .slice A16521 m16523 c16522, .int .i64 1, .int .i64 0, .slice none 0 0])))] ++ [.blk b6520 27 (Col.cells t2520), .blk b7520 27 (Col.cells t5520), .vec As0_1 cs0_2 2 1 ms0_3 (ints ((ls0_4.set (Int.toNat 0) q_).set q_.toNat 0)), .vec As0_5 cs0_6 2 1 ms0_7 (ints ((ls0_8.set (Int.toNat 0) p).set p.toNat 0)), .blk b1 27 (Col.cells x)]) [0, 1, 2, 3, 4, 5] rfl (by decide)).back hpost
            clear hpost
            refine wpList_nil ?_
            refine then_normal ?_
            refine wp_seq ?_
            refine wpr ?_
            refine wpl rfl rfl ht (ev_move ht rfl rfl) ?_
            intro a ht
            refine wpl rfl rfl ht (ev_nilCheck ht rfl rfl) ?_
            intro a ht
            refine wpl rfl rfl ht (ev_fieldAddr ht rfl rfl fo_45_5) ?_
            intro a ht
            refine wpl rfl rfl ht (ev_load ht rfl rfl sc_2 (hm.blk_cell 0 rfl ((seg_col _ _ 141).trans ((seg_col _ _ 3).trans rfl)))) ?_
            intro a ht
            refine wpl rfl rfl ht (ev_cmp ht rfl rfl rfl rfl) ?_
            intro a ht
            refine wpl rfl rfl ht (ev_assign ht rfl rfl) ?_
            intro a ht
            refine wpList_nil ?_
            refine then_normal ?_
            refine wp_ret ?_
            have hres := ht.res (P := Try.prog) (w := w) (rs := [.tmp 6]) (vs := [.bool (decide (t21025.2.2.2.2.2.1 > 0))]) (.tmp rfl .nil)
            obtain rfl := Option.some.inj H
            exact leave ht rfl hres ⟨rfl, ((hm.pick [] rfl (by decide)).pickφ [] rfl).post fun _ h => h⟩
          · replace H := ite_no h21022 H
            refine wpc_no ht rfl (decide_eq_false h21022) ?_
            refine wp_skip ?_
            refine then_normal ?_
            refine wp_seq ?_
            refine wpr ?_
            refine wpl rfl rfl ht (ev_move ht rfl rfl) ?_
            intro a ht
            refine wpl rfl rfl ht (ev_nilCheck ht rfl rfl) ?_
            intro a ht
            refine wpl rfl rfl ht (ev_fieldAddr ht rfl rfl fo_45_5) ?_
            intro a ht
            refine wpl rfl rfl ht (ev_load ht rfl rfl sc_2 (hm.blk_cell 2 rfl ((seg_col _ _ 141).trans ((seg_col _ _ 3).trans rfl)))) ?_
            intro a ht
            refine wpl rfl rfl ht (ev_cmp (r := false) ht rfl rfl rfl (by decide)) ?_
            intro a ht
            refine wpl rfl rfl ht (ev_assign ht rfl rfl) ?_
            intro a ht
            refine wpList_nil ?_
            refine then_normal ?_
            refine wp_ret ?_
            have hres := ht.res (P := Try.prog) (w := w) (rs := [.tmp 6]) (vs := [.bool false]) (.tmp rfl .nil)
            obtain rfl := Option.some.inj H
            exact leave ht rfl hres ⟨rfl, ((hm.pick [] rfl (by decide)).pickφ [] rfl).post fun _ h => h⟩
        · refine wph_step rfl ?_
          refine wpl_alloc rfl rfl ht hm rfl zo_27 ?_
          intro b6520 a ht w hm
          have hS : Ms X (fps []) w0 [.vec As0_1 cs0_2 2 1 ms0_3 (ints ((ls0_4.set (Int.toNat 0) q_).set q_.toNat 0)), .vec As0_5 cs0_6 2 1 ms0_7 (ints ((ls0_8.set (Int.toNat 0) p).set p.toNat 0)), .blk b1 27 (Col.cells x)] [] w := (hm.pick [2, 3, 4] rfl (by decide)).pickφ [] rfl
          refine wpList_nil (qn ⟨hS, ?_⟩)
          refine wph_one (i := 5) (by kernel_rfl) (wph_step rfl ?_)
          obtain ⟨t5520, et5520, H⟩ := bind_get H
          have hcall := spec_l01Renamed.calls q4 _ _ As0_1 cs0_2 ms0_3 x ((ls0_4.set (Int.toNat 0) q_).set q_.toNat 0) _ ((fun (hq : Ms _ _ _ ([] ++ [.blk b6520 27 (Col.cells Col.zero), .blk b7520 27 (Col.cells Col.zero), .vec As0_1 cs0_2 2 1 ms0_3 (ints ((ls0_4.set (Int.toNat 0) q_).set q_.toNat 0)), .vec As0_5 cs0_6 2 1 ms0_7 (ints ((ls0_8.set (Int.toNat 0) p).set p.toNat 0)), .blk b1 27 (Col.cells x)]) _ _) => hq.lend (φp := [IntsAt As0_1 cs0_2 ms0_3 ((ls0_4.set (Int.toNat 0) q_).set q_.toNat 0)]) (allRO_cons (hq.lendVec 2 rfl) (allRO_nil))) (hm.pick (own' := [] ++ [.blk b6520 27 (Col.cells Col.zero), .blk b7520 27 (Col.cells Col.zero), .vec As0_1 cs0_2 2 1 ms0_3 (ints ((ls0_4.set (Int.toNat 0) q_).set q_.toNat 0)), .vec As0_5 cs0_6 2 1 ms0_7 (ints ((ls0_8.set (Int.toNat 0) p).set p.toNat 0)), .blk b1 27 (Col.cells x)]) [0, 1, 2, 3, 4] rfl (by decide))) et5520
          refine wpl_call _ rfl rfl ht rfl rfl rfl rfl can_28 hcall ?_
          clear hcall
          rintro _ w ⟨rfl, hpost⟩ a ht
          replace hm := (hm.pick (own' := [] ++ [.blk b6520 27 (Col.cells Col.zero), .blk b7520 27 (Col.cells Col.zero), .vec As0_1 cs0_2 2 1 ms0_3 (ints ((ls0_4.set (Int.toNat 0) q_).set q_.toNat 0)), .vec As0_5 cs0_6 2 1 ms0_7 (ints ((ls0_8.set (Int.toNat 0) p).set p.toNat 0)), .blk b1 27 (Col.cells x)]) [0, 1, 2, 3, 4] rfl (by decide)).backL hpost
          clear hpost
          have hS : Ms X (fps []) w0 [.vec As0_1 cs0_2 2 1 ms0_3 (ints ((ls0_4.set (Int.toNat 0) q_).set q_.toNat 0)), .vec As0_5 cs0_6 2 1 ms0_7 (ints ((ls0_8.set (Int.toNat 0) p).set p.toNat 0)), .blk b1 27 (Col.cells x)] [] w := (hm.pick [2, 3, 4] rfl (by decide)).pickφ [] rfl
          refine wpList_nil (qn ⟨hS, ?_⟩)
          refine wph_one (i := 8) (by kernel_rfl) (wph_step rfl ?_)
          refine wpl_store_whole 0 rfl rfl ht hm rfl rfl rfl (szn_27.trans (by first | rw [Col.length_cells] | rfl)) rfl (by simp only [Col.length_cells]) (Col.cells_one _) ?_
          intro a ht w hm
          have hS : Ms X (fps []) w0 [.vec As0_1 cs0_2 2 1 ms0_3 (ints ((ls0_4.set (Int.toNat 0) q_).set q_.toNat 0)), .vec As0_5 cs0_6 2 1 ms0_7 (ints ((ls0_8.set (Int.toNat 0) p).set p.toNat 0)), .blk b1 27 (Col.cells x)] [] w := (hm.pick [2, 3, 4] rfl (by decide)).pickφ [] rfl
          refine wpList_nil (qn ⟨hS, ?_⟩)
          refine wph_one (i := 9) (by kernel_rfl) (wph_step rfl ?_)
          refine wpl_store_whole 1 rfl rfl ht hm rfl rfl rfl (szn_27.trans (by first | rw [Col.length_cells] | rfl)) rfl (by simp only [Col.length_cells]) (Col.cells_one _) ?_
          intro a ht w hm
          have hS : Ms X (fps []) w0 [.vec As0_1 cs0_2 2 1 ms0_3 (ints ((ls0_4.set (Int.toNat 0) q_).set q_.toNat 0)), .vec As0_5 cs0_6 2 1 ms0_7 (ints ((ls0_8.set (Int.toNat 0) p).set p.toNat 0)), .blk b1 27 (Col.cells x)] [] w := (hm.pick [2, 3, 4] rfl (by decide)).pickφ [] rfl
          refine wpList_nil (qn ⟨hS, ?_⟩)
          refine wph_done (by kernel_rfl) ?_
          refine then_normal ?_
          refine wp_seq ?_
          refine wph_begin (fun w => Ms X (fps []) w0 [.blk b6520 27 (Col.cells t2520), .blk b7520 27 (Col.cells t5520), .vec As0_1 cs0_2 2 1 ms0_3 (ints ((ls0_4.set (Int.toNat 0) q_).set q_.toNat 0)), .vec As0_5 cs0_6 2 1 ms0_7 (ints ((ls0_8.set (Int.toNat 0) p).set p.toNat 0)), .blk b1 27 (Col.cells x)] [] w) mixed ?_
          replace hm := hm.drew
          have hS : Ms X (fps []) w0 [.blk b6520 27 (Col.cells t2520), .blk b7520 27 (Col.cells t5520), .vec As0_1 cs0_2 2 1 ms0_3 (ints ((ls0_4.set (Int.toNat 0) q_).set q_.toNat 0)), .vec As0_5 cs0_6 2 1 ms0_7 (ints ((ls0_8.set (Int.toNat 0) p).set p.toNat 0)), .blk b1 27 (Col.cells x)] [] w.drew := (hm.pick [0, 1, 2, 3, 4] rfl (by decide)).pickφ [] rfl
          generalize w.drew = w at hm hS ⊢
          refine wph_take (i := 0) rfl (by kernel_rfl) (by kernel_rfl) (by kernel_rfl) (fun _ _ _ h => h) rfl ht hS (wanted_plain rfl) (fun w hm => ev_load_agg ht rfl rfl (ag_27.trans (by first | rw [Col.length_cells] | rfl)) (hm.blk_all 0 rfl)) ?_
          intro a ht
          refine wph_take (i := 1) rfl (by kernel_rfl) (by kernel_rfl) (by kernel_rfl) (fun _ _ _ h => h) rfl ht hS (wanted_plain rfl) (fun w hm => ev_load_agg ht rfl rfl (ag_27.trans (by first | rw [Col.length_cells] | rfl)) (hm.blk_all 1 rfl)) ?_
          intro a ht
          refine wph_take (i := 2) rfl (by kernel_rfl) (by kernel_rfl) (by kernel_rfl) (fun _ _ _ h => h) rfl ht hS (wanted_plain rfl) (fun w hm => ev_load_agg ht rfl rfl (ag_27.trans (by first | rw [Col.length_cells] | rfl)) (hm.blk_all 0 rfl)) ?_
          intro a ht
          refine wph_take (i := 4) rfl (by kernel_rfl) (by kernel_rfl) (by kernel_rfl) (fun _ _ _ h => h) rfl ht hS (wanted_plain rfl) (fun w hm => ev_load_agg ht rfl rfl (ag_27.trans (by first | rw [Col.length_cells] | rfl)) (hm.blk_all 1 rfl)) ?_
          intro a ht
          refine wph_one (i := 3) (by kernel_rfl) (wph_step rfl ?_)
          obtain ⟨t14520, et14520, H⟩ := bind_get H
          have hcall := spec_l06Types.calls q4 _ _ t2520 _ ((fun (hq : Ms _ _ _ ([] ++ [.blk b6520 27 (Col.cells t2520), .blk b7520 27 (Col.cells t5520), .vec As0_1 cs0_2 2 1 ms0_3 (ints ((ls0_4.set (Int.toNat 0) q_).set q_.toNat 0)), .vec As0_5 cs0_6 2 1 ms0_7 (ints ((ls0_8.set (Int.toNat 0) p).set p.toNat 0)), .blk b1 27 (Col.cells x)]) _ _) => hq.lend (φp := []) (allRO_nil)) (hm.pick (own' := [] ++ [.blk b6520 27 (Col.cells t2520), .blk b7520 27 (Col.cells t5520), .vec As0_1 cs0_2 2 1 ms0_3 (ints ((ls0_4.set (Int.toNat 0) q_).set q_.toNat 0)), .vec As0_5 cs0_6 2 1 ms0_7 (ints ((ls0_8.set (Int.toNat 0) p).set p.toNat 0)), .blk b1 27 (Col.cells x)]) [0, 1, 2, 3, 4] rfl (by decide))) et14520
          refine wpl_call _ rfl rfl ht rfl rfl rfl rfl can_44 hcall ?_
          clear hcall
          rintro _ w ⟨A14521, c14522, m14523, rfl, hpost⟩ a ht
          replace hm := (hm.pick (own' := [] ++ [.blk b6520 27 (Col.cells t2520), .blk b7520 27 (Col.cells t5520), .vec As0_1 cs0_2 2 1 ms0_3 (ints ((ls0_4.set (Int.toNat 0) q_).set q_.toNat 0)), .vec As0_5 cs0_6 2 1 ms0_7 (ints ((ls0_8.set (Int.toNat 0) p).set p.toNat 0)), .blk b1 27 (Col.cells x)]) [0, 1, 2, 3, 4] rfl (by decide)).backL hpost
          clear hpost
          have hS : Ms X (fps []) w0 [.blk b6520 27 (Col.cells t2520), .blk b7520 27 (Col.cells t5520), .vec As0_1 cs0_2 2 1 ms0_3 (ints ((ls0_4.set (Int.toNat 0) q_).set q_.toNat 0)), .vec As0_5 cs0_6 2 1 ms0_7 (ints ((ls0_8.set (Int.toNat 0) p).set p.toNat 0)), .blk b1 27 (Col.cells x)] [] w := (hm.pick [1, 2, 3, 4, 5] rfl (by decide)).pickφ [] rfl
          refine wpList_nil (qn ⟨hS, ?_⟩)
          refine wph_one (i := 5) (by kernel_rfl) (wph_step rfl ?_)
          obtain ⟨t16520, et16520, H⟩ := bind_get H
          have hcall := spec_l06Types.calls q4 _ _ t5520 _ ((fun (hq : Ms _ _ _ ([] ++ [.vec A14521 c14522 2 1 m14523 (ints t14520), .blk b6520 27 (Col.cells t2520), .blk b7520 27 (Col.cells t5520), .vec As0_1 cs0_2 2 1 ms0_3 (ints ((ls0_4.set (Int.toNat 0) q_).set q_.toNat 0)), .vec As0_5 cs0_6 2 1 ms0_7 (ints ((ls0_8.set (Int.toNat 0) p).set p.toNat 0)), .blk b1 27 (Col.cells x)]) _ _) => hq.lend (φp := []) (allRO_nil)) (hm.pick (own' := [] ++ [.vec A14521 c14522 2 1 m14523 (ints t14520), .blk b6520 27 (Col.cells t2520), .blk b7520 27 (Col.cells t5520), .vec As0_1 cs0_2 2 1 ms0_3 (ints ((ls0_4.set (Int.toNat 0) q_).set q_.toNat 0)), .vec As0_5 cs0_6 2 1 ms0_7 (ints ((ls0_8.set (Int.toNat 0) p).set p.toNat 0)), .blk b1 27 (Col.cells x)]) [0, 1, 2, 3, 4, 5] rfl (by decide))) et16520
          refine wpl_call _ rfl rfl ht rfl rfl rfl rfl can_44 hcall ?_
          clear hcall
          rintro _ w ⟨A16521, c16522, m16523, rfl, hpost⟩ a ht
          replace hm := (hm.pick (own' := [] ++ [.vec A14521 c14522 2 1 m14523 (ints t14520), .blk b6520 27 (Col.cells t2520), .blk b7520 27 (Col.cells t5520), .vec As0_1 cs0_2 2 1 ms0_3 (ints ((ls0_4.set (Int.toNat 0) q_).set q_.toNat 0)), .vec As0_5 cs0_6 2 1 ms0_7 (ints ((ls0_8.set (Int.toNat 0) p).set p.toNat 0)), .blk b1 27 (Col.cells x)]) [0, 1, 2, 3, 4, 5] rfl (by decide)).backL hpost
          clear hpost
          have hS : Ms X (fps []) w0 [.blk b6520 27 (Col.cells t2520), .blk b7520 27 (Col.cells t5520), .vec As0_1 cs0_2 2 1 ms0_3 (ints ((ls0_4.set (Int.toNat 0) q_).set q_.toNat 0)), .vec As0_5 cs0_6 2 1 ms0_7 (ints ((ls0_8.set (Int.toNat 0) p).set p.toNat 0)), .blk b1 27 (Col.cells x)] [] w := (hm.pick [2, 3, 4, 5, 6] rfl (by decide)).pickφ [] rfl
          refine wpList_nil (qn ⟨hS, ?_⟩)
          refine wph_take (i := 6) rfl (by kernel_rfl) (by kernel_rfl) (by kernel_rfl) (fun _ _ _ h => h) rfl ht hS (wanted_plain rfl) (fun w hm => ev_build (vs := (Col.cells t2520 ++ (Col.cells t5520 ++ ([.slice A14521 m14523 c14522, .slice A16521 m16523 c16522, .int .i64 1, .int .i64 0, .slice none 0 0])))) ht rfl bi_45 rfl (fill_two _ _ _ _ _ _ _ _ _ _ rfl rfl rfl)) ?_
          intro a ht
          refine wph_one (i := 7) (by kernel_rfl) (wph_step rfl ?_)
          refine wpl_box rfl rfl ht hm rfl rfl rfl ?_
          intro b18520 a ht w hm
          have hS : Ms X (fps []) w0 [.blk b6520 27 (Col.cells t2520), .blk b7520 27 (Col.cells t5520), .vec As0_1 cs0_2 2 1 ms0_3 (ints ((ls0_4.set (Int.toNat 0) q_).set q_.toNat 0)), .vec As0_5 cs0_6 2 1 ms0_7 (ints ((ls0_8.set (Int.toNat 0) p).set p.toNat 0)), .blk b1 27 (Col.cells x)] [] w := (hm.pick [3, 4, 5, 6, 7] rfl (by decide)).pickφ [] rfl
          refine wpList_nil (qn ⟨hS, ?_⟩)
          refine wph_take (i := 8) rfl (by kernel_rfl) (by kernel_rfl) (by kernel_rfl) (fun _ _ _ h => h) rfl ht hS (wanted_plain rfl) (fun w hm => ev_assign ht rfl rfl) ?_
          intro a ht
          refine wph_done (by kernel_rfl) ?_
          replace hm := hm.pick (own' := [.vec A14521 c14522 2 1 m14523 (ints t14520), .vec A16521 c16522 2 1 m16523 (ints t16520), .blk b18520 45 (Col.cells t2520 ++ (Col.cells t5520 ++ ([.slice A14521 m14523 c14522, .slice A16521 m16523 c16522, .int .i64 1, .int .i64 0, .slice none 0 0]))), .blk b6520 27 (Col.cells t2520), .blk b7520 27 (Col.cells t5520), .vec As0_1 cs0_2 2 1 ms0_3 (ints ((ls0_4.set (Int.toNat 0) q_).set q_.toNat 0)), .vec As0_5 cs0_6 2 1 ms0_7 (ints ((ls0_8.set (Int.toNat 0) p).set p.toNat 0)), .blk b1 27 (Col.cells x)]) [2, 1, 0, 3, 4, 5, 6, 7] rfl (by decide)
          refine then_normal ?_
          refine wp_seq ?_
          refine wp_seq ?_
          refine wph_begin (fun w => Ms X (fps []) w0 [.vec A14521 c14522 2 1 m14523 (ints t14520), .vec A16521 c16522 2 1 m16523 (ints t16520), .blk b18520 45 (Col.cells t2520 ++ (Col.cells t5520 ++ ([.slice A14521 m14523 c14522, .slice A16521 m16523 c16522, .int .i64 1, .int .i64 0, .slice none 0 0]))), .blk b6520 27 (Col.cells t2520), .blk b7520 27 (Col.cells t5520), .vec As0_1 cs0_2 2 1 ms0_3 (ints ((ls0_4.set (Int.toNat 0) q_).set q_.toNat 0)), .vec As0_5 cs0_6 2 1 ms0_7 (ints ((ls0_8.set (Int.toNat 0) p).set p.toNat 0)), .blk b1 27 (Col.cells x)] [] w) mixed ?_
          replace hm := hm.drew
          have hS : Ms X (fps []) w0 [.vec A14521 c14522 2 1 m14523 (ints t14520), .vec A16521 c16522 2 1 m16523 (ints t16520), .blk b18520 45 (Col.cells t2520 ++ (Col.cells t5520 ++ ([.slice A14521 m14523 c14522, .slice A16521 m16523 c16522, .int .i64 1, .int .i64 0, .slice none 0 0]))), .blk b6520 27 (Col.cells t2520), .blk b7520 27 (Col.cells t5520), .vec As0_1 cs0_2 2 1 ms0_3 (ints ((ls0_4.set (Int.toNat 0) q_).set q_.toNat 0)), .vec As0_5 cs0_6 2 1 ms0_7 (ints ((ls0_8.set (Int.toNat 0) p).set p.toNat 0)), .blk b1 27 (Col.cells x)] [] w.drew := (hm.pick [0, 1, 2, 3, 4, 5, 6, 7] rfl (by decide)).pickφ [] rfl
          generalize w.drew = w at hm hS ⊢
          refine wph_take (i := 0) rfl (by kernel_rfl) (by kernel_rfl) (by kernel_rfl) (fun _ _ _ h => h) rfl ht hS (wanted_plain rfl) (fun w hm => ev_move ht rfl rfl) ?_
          intro a ht
          refine wph_take (i := 1) rfl (by kernel_rfl) (by kernel_rfl) (by kernel_rfl) (fun _ _ _ h => h) rfl ht hS (wanted_plain rfl) (fun w hm => ev_nilCheck ht rfl rfl) ?_
          intro a ht
          refine wph_take (i := 2) rfl (by kernel_rfl) (by kernel_rfl) (by kernel_rfl) (fun _ _ _ h => h) rfl ht hS (wanted_plain rfl) (fun w hm => ev_fieldAddr ht rfl rfl fo_45_2) ?_
          intro a ht
          refine wph_take (i := 3) rfl (by kernel_rfl) (by kernel_rfl) (by kernel_rfl) (fun _ _ _ h => h) rfl ht hS (wanted_plain rfl) (fun w hm => ev_load ht rfl rfl sc_43 (hm.blk_cell 2 rfl ((seg_col _ _ 138).trans ((seg_col _ _ 0).trans rfl)))) ?_
          intro a ht
          obtain ⟨t21020, et21020, H⟩ := bind_get H
          refine wph_take (i := 4) rfl (by kernel_rfl) (by kernel_rfl) (by kernel_rfl) (fun _ _ _ h => h) rfl ht hS (wanted_plain rfl) (fun w hm => ev_index_ints ht rfl rfl rfl so_43 (hm.vec_row 0 rfl) et21020) ?_
          intro a ht
          refine wph_take (i := 5) rfl (by kernel_rfl) (by kernel_rfl) (by kernel_rfl) (fun _ _ _ h => h) rfl ht hS (wanted_plain rfl) (fun w hm => ev_load ht rfl rfl sc_2 (RowAt.cell (hm.vec_row 0 rfl) (ints_get et21020) rfl)) ?_
          intro a ht
          refine wph_take (i := 6) rfl (by kernel_rfl) (by kernel_rfl) (by kernel_rfl) (fun _ _ _ h => h) rfl ht hS (wanted_plain rfl) (fun w hm => ev_move ht rfl rfl) ?_
          intro a ht
          refine wph_take (i := 7) rfl (by kernel_rfl) (by kernel_rfl) (by kernel_rfl) (fun _ _ _ h => h) rfl ht hS (wanted_plain rfl) (fun w hm => ev_nilCheck ht rfl rfl) ?_
          intro a ht
          refine wph_take (i := 8) rfl (by kernel_rfl) (by kernel_rfl) (by kernel_rfl) (fun _ _ _ h => h) rfl ht hS (wanted_plain rfl) (fun w hm => ev_fieldAddr ht rfl rfl fo_45_3) ?_
          intro a ht
          refine wph_take (i := 9) rfl (by kernel_rfl) (by kernel_rfl) (by kernel_rfl) (fun _ _ _ h => h) rfl ht hS (wanted_plain rfl) (fun w hm => ev_load ht rfl rfl sc_43 (hm.blk_cell 2 rfl ((seg_col _ _ 139).trans ((seg_col _ _ 1).trans rfl)))) ?_
          intro a ht
          obtain ⟨t21021, et21021, H⟩ := bind_get H
          refine wph_take (i := 10) rfl (by kernel_rfl) (by kernel_rfl) (by kernel_rfl) (fun _ _ _ h => h) rfl ht hS (wanted_plain rfl) (fun w hm => ev_index_ints ht rfl rfl rfl so_43 (hm.vec_row 1 rfl) et21021) ?_
          intro a ht
          refine wph_take (i := 11) rfl (by kernel_rfl) (by kernel_rfl) (by kernel_rfl) (fun _ _ _ h => h) rfl ht hS (wanted_plain rfl) (fun w hm => ev_load ht rfl rfl sc_2 (RowAt.cell (hm.vec_row 1 rfl) (ints_get et21021) rfl)) ?_
          intro a ht
          refine wph_take (i := 12) rfl (by kernel_rfl) (by kernel_rfl) (by kernel_rfl) (fun _ _ _ h => h) rfl ht hS (wanted_plain rfl) (fun w hm => ev_cmp ht rfl rfl rfl rfl) ?_
          intro a ht
          refine wph_done (by kernel_rfl) ?_
          refine then_normal ?_
          by_cases h21022 : t21020 = t21021
          · replace H := ite_yes h21022 H
            refine wpc_yes ht rfl (decide_eq_true h21022) ?_
            refine wpr ?_
            refine wpl rfl rfl ht (ev_move ht rfl rfl) ?_
            intro a ht
            refine wpl_build_ints (l := [0]) rfl rfl ht hm rfl und_43 zo_2 sz1_2 (by decide) rfl rfl rfl ?_
            intro A21023 a ht w hm
            replace hm : Ms _ _ _ _ (IntsAt A14521 c14522 m14523 t14520 :: _) w := hm.shutVec 1 rfl
            replace hm : Ms _ _ _ _ (IntsAt A16521 c16522 m16523 t16520 :: _) w := hm.shutVec 1 rfl
            replace hm : Ms _ _ _ _ (IntsAt A21023 1 1 ([0]) :: _) w := hm.shutVec 0 rfl
            replace hm : Ms _ _ _ _ (IntsAt none 0 0 ([] : List Int) :: _) w := hm.nilRow none 1
            obtain ⟨t21025, et21025, H⟩ := bind_get H
            have hcall := spec_l06Go.calls q4 _ _ b18520 A14521 c14522 m14523 A16521 c16522 m16523 none 0 0 A21023 1 1 t2520 t5520 t14520 t16520 1 0 ([]) ([0]) 1 _ ((hm.pick (own' := [.blk b18520 45 (Col.cells t2520 ++ (Col.cells t5520 ++ ([.slice A14521 m14523 c14522, .slice A16521 m16523 c16522, .int .i64 1, .int .i64 0, .slice none 0 0])))] ++ [.blk b6520 27 (Col.cells t2520), .blk b7520 27 (Col.cells t5520), .vec As0_1 cs0_2 2 1 ms0_3 (ints ((ls0_4.set (Int.toNat 0) q_).set q_.toNat 0)), .vec As0_5 cs0_6 2 1 ms0_7 (ints ((ls0_8.set (Int.toNat 0) p).set p.toNat 0)), .blk b1 27 (Col.cells x)]) [0, 1, 2, 3, 4, 5] rfl (by decide)).give (passed := [.blk b18520 45 (Col.cells t2520 ++ (Col.cells t5520 ++ ([.slice A14521 m14523 c14522, .slice A16521 m16523 c16522, .int .i64 1, .int .i64 0, .slice none 0 0])))]) (rest := [.blk b6520 27 (Col.cells t2520), .blk b7520 27 (Col.cells t5520), .vec As0_1 cs0_2 2 1 ms0_3 (ints ((ls0_4.set (Int.toNat 0) q_).set q_.toNat 0)), .vec As0_5 cs0_6 2 1 ms0_7 (ints ((ls0_8.set (Int.toNat 0) p).set p.toNat 0)), .blk b1 27 (Col.cells x)]) (φp := [IntsAt A14521 c14522 m14523 t14520, IntsAt A16521 c16522 m16523 t16520, IntsAt none 0 0 ([] : List Int), IntsAt A21023 1 1 ([0])]) [3, 2, 0, 1] rfl) et21025
            refine wpl_call _ rfl rfl ht rfl rfl rfl rfl can_45 hcall ?_
            clear hcall
            rintro _ w ⟨A21026, c21027, m21028, A21029, c21030, m21031, A21032, c21033, m21034, rfl, hpost⟩ a ht
            replace hm := (hm.pick (own' := [.blk b18520 45 (Col.cells t2520 ++ (Col.cells t5520 ++ ([.slice A14521 m14523 c14522, .slice A16521 m16523 c16522, .int .i64 1, .int .i64 0, .slice none 0 0])))] ++ [.blk b6520 27 (Col.cells t2520), .blk b7520 27 (Col.cells t5520), .vec As0_1 cs0_2 2 1 ms0_3 (ints ((ls0_4.set (Int.toNat 0) q_).set q_.toNat 0)), .vec As0_5 cs0_6 2 1 ms0_7 (ints ((ls0_8.set (Int.toNat 0) p).set p.toNat 0)), .blk b1 27 (Col.cells x)]) [0, 1, 2, 3, 4, 5] rfl (by decide)).back hpost
            clear hpost
            refine wpList_nil ?_
            refine then_normal ?_
            refine wp_seq ?_
            refine wpr ?_
            refine wpl rfl rfl ht (ev_move ht rfl rfl) ?_
            intro a ht
            refine wpl rfl rfl ht (ev_nilCheck ht rfl rfl) ?_
            intro a ht
            refine wpl rfl rfl ht (ev_fieldAddr ht rfl rfl fo_45_5) ?_
            intro a ht
            refine wpl rfl rfl ht (ev_load ht rfl rfl sc_2 (hm.blk_cell 0 rfl ((seg_col _ _ 141).trans ((seg_col _ _ 3).trans rfl)))) ?_
            intro a ht
            refine wpl rfl rfl ht (ev_cmp ht rfl rfl rfl rfl) ?_
            intro a ht
            refine wpl rfl rfl ht (ev_assign ht rfl rfl) ?_
            intro a ht
            refine wpList_nil ?_
            refine then_normal ?_
            refine wp_ret ?_
            have hres := ht.res (P := Try.prog) (w := w) (rs := [.tmp 6]) (vs := [.bool (decide (t21025.2.2.2.2.2.1 > 0))]) (.tmp rfl .nil)
            obtain rfl := Option.some.inj H
            exact leave ht rfl hres ⟨rfl, ((hm.pick [] rfl (by decide)).pickφ [] rfl).post fun _ h => h⟩
          · replace H := ite_no h21022 H
            refine wpc_no ht rfl (decide_eq_false h21022) ?_
            refine wp_skip ?_
            refine then_normal ?_
            refine wp_seq ?_
            refine wpr ?_
            refine wpl rfl rfl ht (ev_move ht rfl rfl) ?_
            intro a ht
            refine wpl rfl rfl ht (ev_nilCheck ht rfl rfl) ?_
            intro a ht
            refine wpl rfl rfl ht (ev_fieldAddr ht rfl rfl fo_45_5) ?_
            intro a ht
            refine wpl rfl rfl ht (ev_load ht rfl rfl sc_2 (hm.blk_cell 2 rfl ((seg_col _ _ 141).trans ((seg_col _ _ 3).trans rfl)))) ?_
            intro a ht
            refine wpl rfl rfl ht (ev_cmp (r := false) ht rfl rfl rfl (by decide)) ?_
            intro a ht
            refine wpl rfl rfl ht (ev_assign ht rfl rfl) ?_
            intro a ht
            refine wpList_nil ?_
            refine then_normal ?_
            refine wp_ret ?_
            have hres := ht.res (P := Try.prog) (w := w) (rs := [.tmp 6]) (vs := [.bool false]) (.tmp rfl .nil)
            obtain rfl := Option.some.inj H
            exact leave ht rfl hres ⟨rfl, ((hm.pick [] rfl (by decide)).pickφ [] rfl).post fun _ h => h⟩
    · refine wph_step rfl ?_
      refine wpl_alloc rfl rfl ht hm rfl zo_27 ?_
      intro b6520 a ht w hm
      have hS : Ms X (fps []) w0 [.vec As0_1 cs0_2 2 1 ms0_3 (ints ((ls0_4.set (Int.toNat 0) q_).set q_.toNat 0)), .vec As0_5 cs0_6 2 1 ms0_7 (ints ((ls0_8.set (Int.toNat 0) p).set p.toNat 0)), .blk b1 27 (Col.cells x)] [] w := (hm.pick [1, 2, 3] rfl (by decide)).pickφ [] rfl
      refine wpList_nil (qn ⟨hS, ?_⟩)
      refine wph_two (i := 2) (j := 7) (by kernel_rfl) ?_ ?_ 
      · refine wph_step rfl ?_
        obtain ⟨t2520, et2520, H⟩ := bind_get H
        have hcall := spec_l01Renamed.calls q4 _ _ As0_5 cs0_6 ms0_7 x ((ls0_8.set (Int.toNat 0) p).set p.toNat 0) _ ((fun (hq : Ms _ _ _ ([] ++ [.blk b6520 27 (Col.cells Col.zero), .vec As0_1 cs0_2 2 1 ms0_3 (ints ((ls0_4.set (Int.toNat 0) q_).set q_.toNat 0)), .vec As0_5 cs0_6 2 1 ms0_7 (ints ((ls0_8.set (Int.toNat 0) p).set p.toNat 0)), .blk b1 27 (Col.cells x)]) _ _) => hq.lend (φp := [IntsAt As0_5 cs0_6 ms0_7 ((ls0_8.set (Int.toNat 0) p).set p.toNat 0)]) (allRO_cons (hq.lendVec 2 rfl) (allRO_nil))) (hm.pick (own' := [] ++ [.blk b6520 27 (Col.cells Col.zero), .vec As0_1 cs0_2 2 1 ms0_3 (ints ((ls0_4.set (Int.toNat 0) q_).set q_.toNat 0)), .vec As0_5 cs0_6 2 1 ms0_7 (ints ((ls0_8.set (Int.toNat 0) p).set p.toNat 0)), .blk b1 27 (Col.cells x)]) [0, 1, 2, 3] rfl (by decide))) et2520
        refine wpl_call _ rfl rfl ht rfl rfl rfl rfl can_28 hcall ?_
        clear hcall
        rintro _ w ⟨rfl, hpost⟩ a ht
        replace hm := (hm.pick (own' := [] ++ [.blk b6520 27 (Col.cells Col.zero), .vec As0_1 cs0_2 2 1 ms0_3 (ints ((ls0_4.set (Int.toNat 0) q_).set q_.toNat 0)), .vec As0_5 cs0_6 2 1 ms0_7 (ints ((ls0_8.set (Int.toNat 0) p).set p.toNat 0)), .blk b1 27 (Col.cells x)]) [0, 1, 2, 3] rfl (by decide)).backL hpost
        clear hpost
        have hS : Ms X (fps []) w0 [.vec As0_1 cs0_2 2 1 ms0_3 (ints ((ls0_4.set (Int.toNat 0) q_).set q_.toNat 0)), .vec As0_5 cs0_6 2 1 ms0_7 (ints ((ls0_8.set (Int.toNat 0) p).set p.toNat 0)), .blk b1 27 (Col.cells x)] [] w := (hm.pick [1, 2, 3] rfl (by decide)).pickφ [] rfl
        refine wpList_nil (qn ⟨hS, ?_⟩)
        refine wph_two (i := 5) (j := 7) (by kernel_rfl) ?_ ?_ 
        · refine wph_step rfl ?_
          obtain ⟨t5520, et5520, H⟩ := bind_get H
          have hcall := spec_l01Renamed.calls q4 _ _ As0_1 cs0_2 ms0_3 x ((ls0_4.set (Int.toNat 0) q_).set q_.toNat 0) _ ((fun (hq : Ms _ _ _ ([] ++ [.blk b6520 27 (Col.cells Col.zero), .vec As0_1 cs0_2 2 1 ms0_3 (ints ((ls0_4.set (Int.toNat 0) q_).set q_.toNat 0)), .vec As0_5 cs0_6 2 1 ms0_7 (ints ((ls0_8.set (Int.toNat 0) p).set p.toNat 0)), .blk b1 27 (Col.cells x)]) _ _) => hq.lend (φp := [IntsAt As0_1 cs0_2 ms0_3 ((ls0_4.set (Int.toNat 0) q_).set q_.toNat 0)]) (allRO_cons (hq.lendVec 1 rfl) (allRO_nil))) (hm.pick (own' := [] ++ [.blk b6520 27 (Col.cells Col.zero), .vec As0_1 cs0_2 2 1 ms0_3 (ints ((ls0_4.set (Int.toNat 0) q_).set q_.toNat 0)), .vec As0_5 cs0_6 2 1 ms0_7 (ints ((ls0_8.set (Int.toNat 0) p).set p.toNat 0)), .blk b1 27 (Col.cells x)]) [0, 1, 2, 3] rfl (by decide))) et5520
          refine wpl_call _ rfl rfl ht rfl rfl rfl rfl can_28 hcall ?_
          clear hcall
          rintro _ w ⟨rfl, hpost⟩ a ht
          replace hm := (hm.pick (own' := [] ++ [.blk b6520 27 (Col.cells Col.zero), .vec As0_1 cs0_2 2 1 ms0_3 (ints ((ls0_4.set (Int.toNat 0) q_).set q_.toNat 0)), .vec As0_5 cs0_6 2 1 ms0_7 (ints ((ls0_8.set (Int.toNat 0) p).set p.toNat 0)), .blk b1 27 (Col.cells x)]) [0, 1, 2, 3] rfl (by decide)).backL hpost
          clear hpost
          have hS : Ms X (fps []) w0 [.vec As0_1 cs0_2 2 1 ms0_3 (ints ((ls0_4.set (Int.toNat 0) q_).set q_.toNat 0)), .vec As0_5 cs0_6 2 1 ms0_7 (ints ((ls0_8.set (Int.toNat 0) p).set p.toNat 0)), .blk b1 27 (Col.cells x)] [] w := (hm.pick [1, 2, 3] rfl (by decide)).pickφ [] rfl
          refine wpList_nil (qn ⟨hS, ?_⟩)
          refine wph_one (i := 7) (by kernel_rfl) (wph_step rfl ?_)
          refine wpl_alloc rfl rfl ht hm rfl zo_27 ?_
          intro b7520 a ht w hm
          have hS : Ms X (fps []) w0 [.vec As0_1 cs0_2 2 1 ms0_3 (ints ((ls0_4.set (Int.toNat 0) q_).set q_.toNat 0)), .vec As0_5 cs0_6 2 1 ms0_7 (ints ((ls0_8.set (Int.toNat 0) p).set p.toNat 0)), .blk b1 27 (Col.cells x)] [] w := (hm.pick [2, 3, 4] rfl (by decide)).pickφ [] rfl
          refine wpList_nil (qn ⟨hS, ?_⟩)
          refine wph_one (i := 8) (by kernel_rfl) (wph_step rfl ?_)
          refine wpl_store_whole 1 rfl rfl ht hm rfl rfl rfl (szn_27.trans (by first | rw [Col.length_cells] | rfl)) rfl (by simp only [Col.length_cells]) (Col.cells_one _) ?_
          intro a ht w hm
          have hS : Ms X (fps []) w0 [.vec As0_1 cs0_2 2 1 ms0_3 (ints ((ls0_4.set (Int.toNat 0) q_).set q_.toNat 0)), .vec As0_5 cs0_6 2 1 ms0_7 (ints ((ls0_8.set (Int.toNat 0) p).set p.toNat 0)), .blk b1 27 (Col.cells x)] [] w := (hm.pick [2, 3, 4] rfl (by decide)).pickφ [] rfl
          refine wpList_nil (qn ⟨hS, ?_⟩)
          refine wph_one (i := 9) (by kernel_rfl) (wph_step rfl ?_)
          refine wpl_store_whole 0 rfl rfl ht hm rfl rfl rfl (szn_27.trans (by first | rw [Col.length_cells] | rfl)) rfl (by simp only [Col.length_cells]) (Col.cells_one _) ?_
          intro a ht w hm
          have hS : Ms X (fps []) w0 [.vec As0_1 cs0_2 2 1 ms0_3 (ints ((ls0_4.set (Int.toNat 0) q_).set q_.toNat 0)), .vec As0_5 cs0_6 2 1 ms0_7 (ints ((ls0_8.set (Int.toNat 0) p).set p.toNat 0)), .blk b1 27 (Col.cells x)] [] w := (hm.pick [2, 3, 4] rfl (by decide)).pickφ [] rfl
          refine wpList_nil (qn ⟨hS, ?_⟩)
          refine wph_done (by kernel_rfl) ?_
          replace hm := hm.pick (own' := [.blk b6520 27 (Col.cells t2520), .blk b7520 27 (Col.cells t5520), .vec As0_1 cs0_2 2 1 ms0_3 (ints ((ls0_4.set (Int.toNat 0) q_).set q_.toNat 0)), .vec As0_5 cs0_6 2 1 ms0_7 (ints ((ls0_8.set (Int.toNat 0) p).set p.toNat 0)), .blk b1 27 (Col.cells x)]) [1, 0, 2, 3, 4] rfl (by decide)
          refine then_normal ?_
          refine wp_seq ?_
          refine wph_begin (fun w => Ms X (fps []) w0 [.blk b6520 27 (Col.cells t2520), .blk b7520 27 (Col.cells t5520), .vec As0_1 cs0_2 2 1 ms0_3 (ints ((ls0_4.set (Int.toNat 0) q_).set q_.toNat 0)), .vec As0_5 cs0_6 2 1 ms0_7 (ints ((ls0_8.set (Int.toNat 0) p).set p.toNat 0)), .blk b1 27 (Col.cells x)] [] w) mixed ?_
          replace hm := hm.drew
          have hS : Ms X (fps []) w0 [.blk b6520 27 (Col.cells t2520), .blk b7520 27 (Col.cells t5520), .vec As0_1 cs0_2 2 1 ms0_3 (ints ((ls0_4.set (Int.toNat 0) q_).set q_.toNat 0)), .vec As0_5 cs0_6 2 1 ms0_7 (ints ((ls0_8.set (Int.toNat 0) p).set p.toNat 0)), .blk b1 27 (Col.cells x)] [] w.drew := (hm.pick [0, 1, 2, 3, 4] rfl (by decide)).pickφ [] rfl
          generalize w.drew = w at hm hS ⊢
          refine wph_take (i := 0) rfl (by kernel_rfl) (by kernel_rfl) (by kernel_rfl) (fun _ _ _ h => h) rfl ht hS (wanted_plain rfl) (fun w hm => ev_load_agg ht rfl rfl (ag_27.trans (by first | rw [Col.length_cells] | rfl)) (hm.blk_all 0 rfl)) ?_
          intro a ht
          refine wph_take (i := 1) rfl (by kernel_rfl) (by kernel_rfl) (by kernel_rfl) (fun _ _ _ h => h) rfl ht hS (wanted_plain rfl) (fun w hm => ev_load_agg ht rfl rfl (ag_27.trans (by first | rw [Col.length_cells] | rfl)) (hm.blk_all 1 rfl)) ?_
          intro a ht
          refine wph_take (i := 2) rfl (by kernel_rfl) (by kernel_rfl) (by kernel_rfl) (fun _ _ _ h => h) rfl ht hS (wanted_plain rfl) (fun w hm => ev_load_agg ht rfl rfl (ag_27.trans (by first | rw [Col.length_cells] | rfl)) (hm.blk_all 0 rfl)) ?_
          intro a ht
          refine wph_take (i := 4) rfl (by kernel_rfl) (by kernel_rfl) (by kernel_rfl) (fun _ _ _ h => h) rfl ht hS (wanted_plain rfl) (fun w hm => ev_load_agg ht rfl rfl (ag_27.trans (by first | rw [Col.length_cells] | rfl)) (hm.blk_all 1 rfl)) ?_
          intro a ht
          refine wph_one (i := 3) (by kernel_rfl) (wph_step rfl ?_)
          obtain ⟨t14520, et14520, H⟩ := bind_get H
          have hcall := spec_l06Types.calls q4 _ _ t2520 _ ((fun (hq : Ms _ _ _ ([] ++ [.blk b6520 27 (Col.cells t2520), .blk b7520 27 (Col.cells t5520), .vec As0_1 cs0_2 2 1 ms0_3 (ints ((ls0_4.set (Int.toNat 0) q_).set q_.toNat 0)), .vec As0_5 cs0_6 2 1 ms0_7 (ints ((ls0_8.set (Int.toNat 0) p).set p.toNat 0)), .blk b1 27 (Col.cells x)]) _ _) => hq.lend (φp := []) (allRO_nil)) (hm.pick (own' := [] ++ [.blk b6520 27 (Col.cells t2520), .blk b7520 27 (Col.cells t5520), .vec As0_1 cs0_2 2 1 ms0_3 (ints ((ls0_4.set (Int.toNat 0) q_).set q_.toNat 0)), .vec As0_5 cs0_6 2 1 ms0_7 (ints ((ls0_8.set (Int.toNat 0) p).set p.toNat 0)), .blk b1 27 (Col.cells x)]) [0, 1, 2, 3, 4] rfl (by decide))) et14520
          refine wpl_call _ rfl rfl ht rfl rfl rfl rfl can_44 hcall ?_
          clear hcall
          rintro _ w ⟨A14521, c14522, m14523, rfl, hpost⟩ a ht
          replace hm := (hm.pick (own' := [] ++ [.blk b6520 27 (Col.cells t2520), .blk b7520 27 (Col.cells t5520), .vec As0_1 cs0_2 2 1 ms0_3 (ints ((ls0_4.set (Int.toNat 0) q_).set q_.toNat 0)), .vec As0_5 cs0_6 2 1 ms0_7 (ints ((ls0_8.set (Int.toNat 0) p).set p.toNat 0)), .blk b1 27 (Col.cells x)]) [0, 1, 2, 3, 4] rfl (by decide)).backL hpost
          clear hpost
          have hS : Ms X (fps []) w0 [.blk b6520 27 (Col.cells t2520), .blk b7520 27 (Col.cells t5520), .vec As0_1 cs0_2 2 1 ms0_3 (ints ((ls0_4.set (Int.toNat 0) q_).set q_.toNat 0)), .vec As0_5 cs0_6 2 1 ms0_7 (ints ((ls0_8.set (Int.toNat 0) p).set p.toNat 0)), .blk b1 27 (Col.cells x)] [] w := (hm.pick [1, 2, 3, 4, 5] rfl (by decide)).pickφ [] rfl
          refine wpList_nil (qn ⟨hS, ?_⟩)
          refine wph_one (i := 5) (by kernel_rfl) (wph_step rfl ?_)
          obtain ⟨t16520, et16520, H⟩ := bind_get H
          have hcall := spec_l06Types.calls q4 _ _ t5520 _ ((fun (hq : Ms _ _ _ ([] ++ [.vec A14521 c14522 2 1 m14523 (ints t14520), .blk b6520 27 (Col.cells t2520), .blk b7520 27 (Col.cells t5520), .vec As0_1 cs0_2 2 1 ms0_3 (ints ((ls0_4.set (Int.toNat 0) q_).set q_.toNat 0)), .vec As0_5 cs0_6 2 1 ms0_7 (ints ((ls0_8.set (Int.toNat 0) p).set p.toNat 0)), .blk b1 27 (Col.cells x)]) _ _) => hq.lend (φp := []) (allRO_nil)) (hm.pick (own' := [] ++ [.vec A14521 c14522 2 1 m14523 (ints t14520), .blk b6520 27 (Col.cells t2520), .blk b7520 27 (Col.cells t5520), .vec As0_1 cs0_2 2 1 ms0_3 (ints ((ls0_4.set (Int.toNat 0) q_).set q_.toNat 0)), .vec As0_5 cs0_6 2 1 ms0_7 (ints ((ls0_8.set (Int.toNat 0) p).set p.toNat 0)), .blk b1 27 (Col.cells x)]) [0, 1, 2, 3, 4, 5] rfl (by decide))) et16520
          refine wpl_call _ rfl rfl ht rfl rfl rfl rfl can_44 hcall ?_
          clear hcall
          rintro _ w ⟨A16521, c16522, m16523, rfl, hpost⟩ a ht
          replace hm := (hm.pick (own' := [] ++ [.vec A14521 c14522 2 1 m14523 (ints t14520), .blk b6520 27 (Col.cells t2520), .blk b7520 27 (Col.cells t5520), .vec As0_1 cs0_2 2 1 ms0_3 (ints ((ls0_4.set (Int.toNat 0) q_).set q_.toNat 0)), .vec As0_5 cs0_6 2 1 ms0_7 (ints ((ls0_8.set (Int.toNat 0) p).set p.toNat 0)), .blk b1 27 (Col.cells x)]) [0, 1, 2, 3, 4, 5] rfl (by decide)).backL hpost
          clear hpost
          have hS : Ms X (fps []) w0 [.blk b6520 27 (Col.cells t2520), .blk b7520 27 (Col.cells t5520), .vec As0_1 cs0_2 2 1 ms0_3 (ints ((ls0_4.set (Int.toNat 0) q_).set q_.toNat 0)), .vec As0_5 cs0_6 2 1 ms0_7 (ints ((ls0_8.set (Int.toNat 0) p).set p.toNat 0)), .blk b1 27 (Col.cells x)] [] w := (hm.pick [2, 3, 4, 5, 6] rfl (by decide)).pickφ [] rfl
          refine wpList_nil (qn ⟨hS, ?_⟩)
          refine wph_take (i := 6) rfl (by kernel_rfl) (by kernel_rfl) (by kernel_rfl) (fun _ _ _ h => h) rfl ht hS (wanted_plain rfl) (fun w hm => ev_build (vs := (Col.cells t2520 ++ (Col.cells t5520 ++ ([.slice A14521 m14523 c14522, .slice A16521 m16523 c16522, .int .i64 1, .int .i64 0, .slice none 0 0])))) ht rfl bi_45 rfl (fill_two _ _ _ _ _ _ _ _ _ _ rfl rfl rfl)) ?_
          intro a ht
          refine wph_one (i := 7) (by kernel_rfl) (wph_step rfl ?_)
          refine wpl_box rfl rfl ht hm rfl rfl rfl ?_
          intro b18520 a ht w hm
          have hS : Ms X (fps []) w0 [.blk b6520 27 (Col.cells t2520), .blk b7520 27 (Col.cells t5520), .vec As0_1 cs0_2 2 1 ms0_3 (ints ((ls0_4.set (Int.toNat 0) q_).set q_.toNat 0)), .vec As0_5 cs0_6 2 1 ms0_7 (ints ((ls0_8.set (Int.toNat 0) p).set p.toNat 0)), .blk b1 27 (Col.cells x)] [] w := (hm.pick [3, 4, 5, 6, 7] rfl (by decide)).pickφ [] rfl
          refine wpList_nil (qn ⟨hS, ?_⟩)
          refine wph_take (i := 8) rfl (by kernel_rfl) (by kernel_rfl) (by kernel_rfl) (fun _ _ _ h => h) rfl ht hS (wanted_plain rfl) (fun w hm => ev_assign ht rfl rfl) ?_
          intro a ht
          refine wph_done (by kernel_rfl) ?_
          replace hm := hm.pick (own' := [.vec A14521 c14522 2 1 m14523 (ints t14520), .vec A16521 c16522 2 1 m16523 (ints t16520), .blk b18520 45 (Col.cells t2520 ++ (Col.cells t5520 ++ ([.slice A14521 m14523 c14522, .slice A16521 m16523 c16522, .int .i64 1, .int .i64 0, .slice none 0 0]))), .blk b6520 27 (Col.cells t2520), .blk b7520 27 (Col.cells t5520), .vec As0_1 cs0_2 2 1 ms0_3 (ints ((ls0_4.set (Int.toNat 0) q_).set q_.toNat 0)), .vec As0_5 cs0_6 2 1 ms0_7 (ints ((ls0_8.set (Int.toNat 0) p).set p.toNat 0)), .blk b1 27 (Col.cells x)]) [2, 1, 0, 3, 4, 5, 6, 7] rfl (by decide)
          refine then_normal ?_
          refine wp_seq ?_
          refine wp_seq ?_
          refine wph_begin (fun w => Ms X (fps []) w0 [.vec A14521 c14522 2 1 m14523 (ints t14520), .vec A16521 c16522 2 1 m16523 (ints t16520), .blk b18520 45 (Col.cells t2520 ++ (Col.cells t5520 ++ ([.slice A14521 m14523 c14522, .slice A16521 m16523 c16522, .int .i64 1, .int .i64 0, .slice none 0 0]))), .blk b6520 27 (Col.cells t2520), .blk b7520 27 (Col.cells t5520), .vec As0_1 cs0_2 2 1 ms0_3 (ints ((ls0_4.set (Int.toNat 0) q_).set q_.toNat 0)), .vec As0_5 cs0_6 2 1 ms0_7 (ints ((ls0_8.set (Int.toNat 0) p).set p.toNat 0)), .blk b1 27 (Col.cells x)] [] w) mixed ?_
          replace hm := hm.drew
          have hS : Ms X (fps []) w0 [.vec A14521 c14522 2 1 m14523 (ints t14520), .vec A16521 c16522 2 1 m16523 (ints t16520), .blk b18520 45 (Col.cells t2520 ++ (Col.cells t5520 ++ ([.slice A14521 m14523 c14522, .slice A16521 m16523 c16522, .int .i64 1, .int .i64 0, .slice none 0 0]))), .blk b6520 27 (Col.cells t2520), .blk b7520 27 (Col.cells t5520), .vec As0_1 cs0_2 2 1 ms0_3 (ints ((ls0_4.set (Int.toNat 0) q_).set q_.toNat 0)), .vec As0_5 cs0_6 2 1 ms0_7 (ints ((ls0_8.set (Int.toNat 0) p).set p.toNat 0)), .blk b1 27 (Col.cells x)] [] w.drew := (hm.pick [0, 1, 2, 3, 4, 5, 6, 7] rfl (by decide)).pickφ [] rfl
          generalize w.drew = w at hm hS ⊢
          refine wph_take (i := 0) rfl (by kernel_rfl) (by kernel_rfl) (by kernel_rfl) (fun _ _ _ h => h) rfl ht hS (wanted_plain rfl) (fun w hm => ev_move ht rfl rfl) ?_
          intro a ht
          refine wph_take (i := 1) rfl (by kernel_rfl) (by kernel_rfl) (by kernel_rfl) (fun _ _ _ h => h) rfl ht hS (wanted_plain rfl) (fun w hm => ev_nilCheck ht rfl rfl) ?_
          intro a ht
          refine wph_take (i := 2) rfl (by kernel_rfl) (by kernel_rfl) (by kernel_rfl) (fun _ _ _ h => h) rfl ht hS (wanted_plain rfl) (fun w hm => ev_fieldAddr ht rfl rfl fo_45_2) ?_
          intro a ht
          refine wph_take (i := 3) rfl (by kernel_rfl) (by kernel_rfl) (by kernel_rfl) (fun _ _ _ h => h) rfl ht hS (wanted_plain rfl) (fun w hm => ev_load ht rfl rfl sc_43 (hm.blk_cell 2 rfl ((seg_col _ _ 138).trans ((seg_col _ _ 0).trans rfl)))) ?_
          intro a ht
          obtain ⟨t21020, et21020, H⟩ := bind_get H
          refine wph_take (i := 4) rfl (by kernel_rfl) (by kernel_rfl) (by kernel_rfl) (fun _ _ _ h => h) rfl ht hS (wanted_plain rfl) (fun w hm => ev_index_ints ht rfl rfl rfl so_43 (hm.vec_row 0 rfl) et21020) ?_
          intro a ht
          refine wph_take (i := 5) rfl (by kernel_rfl) (by kernel_rfl) (by kernel_rfl) (fun _ _ _ h => h) rfl ht hS (wanted_plain rfl) (fun w hm => ev_load ht rfl rfl sc_2 (RowAt.cell (hm.vec_row 0 rfl) (ints_get et21020) rfl)) ?_
          intro a ht
          refine wph_take (i := 6) rfl (by kernel_rfl) (by kernel_rfl) (by kernel_rfl) (fun _ _ _ h => h) rfl ht hS (wanted_plain rfl) (fun w hm => ev_move ht rfl rfl) ?_
          intro a ht
          refine wph_take (i := 7) rfl (by kernel_rfl) (by kernel_rfl) (by kernel_rfl) (fun _ _ _ h => h) rfl ht hS (wanted_plain rfl) (fun w hm => ev_nilCheck ht rfl rfl) ?_
          intro a ht
          refine wph_take (i := 8) rfl (by kernel_rfl) (by kernel_rfl) (by kernel_rfl) (fun _ _ _ h => h) rfl ht hS (wanted_plain rfl) (fun w hm => ev_fieldAddr ht rfl rfl fo_45_3) ?_
          intro a ht
          refine wph_take (i := 9) rfl (by kernel_rfl) (by kernel_rfl) (by kernel_rfl) (fun _ _ _ h => h) rfl ht hS (wanted_plain rfl) (fun w hm => ev_load ht rfl rfl sc_43 (hm.blk_cell 2 rfl ((seg_col _ _ 139).trans ((seg_col _ _ 1).trans rfl)))) ?_
          intro a ht
          obtain ⟨t21021, et21021, H⟩ := bind_get H
          refine wph_take (i := 10) rfl (by kernel_rfl) (by kernel_rfl) (by kernel_rfl) (fun _ _ _ h => h) rfl ht hS (wanted_plain rfl) (fun w hm => ev_index_ints ht rfl rfl rfl so_43 (hm.vec_row 1 rfl) et21021) ?_
          intro a ht
          refine wph_take (i := 11) rfl (by kernel_rfl) (by kernel_rfl) (by kernel_rfl) (fun _ _ _ h => h) rfl ht hS (wanted_plain rfl) (fun w hm => ev_load ht rfl rfl sc_2 (RowAt.cell (hm.vec_row 1 rfl) (ints_get et21021) rfl)) ?_
          intro a ht
          refine wph_take (i := 12) rfl (by kernel_rfl) (by kernel_rfl) (by kernel_rfl) (fun _ _ _ h => h) rfl ht hS (wanted_plain rfl) (fun w hm => ev_cmp ht rfl rfl rfl rfl) ?_
          intro a ht
          refine wph_done (by kernel_rfl) ?_
          refine then_normal ?_
          by_cases h21022 : t21020 = t21021
          · replace H := ite_yes h21022 H
            refine wpc_yes ht rfl (decide_eq_true h21022) ?_
            refine wpr ?_
            refine wpl rfl rfl ht (ev_move ht rfl rfl) ?_
            intro a ht
            refine wpl_build_ints (l := [0]) rfl rfl ht hm rfl und_43 zo_2 sz1_2 (by decide) rfl rfl rfl ?_
            intro A21023 a ht w hm
            replace hm : Ms _ _ _ _ (IntsAt A14521 c14522 m14523 t14520 :: _) w := hm.shutVec 1 rfl
            replace hm : Ms _ _ _ _ (IntsAt A16521 c16522 m16523 t16520 :: _) w := hm.shutVec 1 rfl
            replace hm : Ms _ _ _ _ (IntsAt A21023 1 1 ([0]) :: _) w := hm.shutVec 0 rfl
            replace hm : Ms _ _ _ _ (IntsAt none 0 0 ([] : List Int) :: _) w := hm.nilRow none 1
            obtain ⟨t21025, et21025, H⟩ := bind_get H
            have hcall := spec_l06Go.calls q4 _ _ b18520 A14521 c14522 m14523 A16521 c16522 m16523 none 0 0 A21023 1 1 t2520 t5520 t14520 t16520 1 0 ([]) ([0]) 1 _ ((hm.pick (own' := [.blk b18520 45 (Col.cells t2520 ++ (Col.cells t5520 ++ ([.slice A14521 m14523 c14522, .slice A16521 m16523 c16522, .int .i64 1, .int .i64 0, .slice none 0 0])))] ++ [.blk b6520 27 (Col.cells t2520), .blk b7520 27 (Col.cells t5520), .vec As0_1 cs0_2 2 1 ms0_3 (ints ((ls0_4.set (Int.toNat 0) q_).set q_.toNat 0)), .vec As0_5 cs0_6 2 1 ms0_7 (ints ((ls0_8.set (Int.toNat 0) p).set p.toNat 0)), .blk b1 27 (Col.cells x)]) [0, 1, 2, 3, 4, 5] rfl (by decide)).give (passed := [.blk b18520 45 (Col.cells t2520 ++ (Col.cells t5520 ++ ([.slice A14521 m14523 c14522, .slice A16521 m16523 c16522, .int .i64 1, .int .i64 0, .slice none 0 0])))]) (rest := [.blk b6520 27 (Col.cells t2520), .blk b7520 27 (Col.cells t5520), .vec As0_1 cs0_2 2 1 ms0_3 (ints ((ls0_4.set (Int.toNat 0) q_).set q_.toNat 0)), .vec As0_5 cs0_6 2 1 ms0_7 (ints ((ls0_8.set (Int.toNat 0) p).set p.toNat 0)), .blk b1 27 (Col.cells x)]) (φp := [IntsAt A14521 c14522 m14523 t14520, IntsAt A16521 c16522 m16523 t16520, IntsAt none 0 0 ([] : List Int), IntsAt A21023 1 1 ([0])]) [3, 2, 0, 1] rfl) et21025
            refine wpl_call _ rfl rfl ht rfl rfl rfl rfl can_45 hcall ?_
            clear hcall
            rintro _ w ⟨A21026, c21027, m21028, A21029, c21030, m21031, A21032, c21033, m21034, rfl, hpost⟩ a ht
            replace hm := (hm.pick (own' := [.blk b18520 45 (Col.cells t2520 ++ (Col.cells t5520 ++ ([.slice A14521 m14523 c14522, .slice A16521 m16523 c16522, .int .i64 1, .int .i64 0, .slice none 0 0])))] ++ [.blk b6520 27 (Col.cells t2520), .blk b7520 27 (Col.cells t5520), .vec As0_1 cs0_2 2 1 ms0_3 (ints ((ls0_4.set (Int.toNat 0) q_).set q_.toNat 0)), .vec As0_5 cs0_6 2 1 ms0_7 (ints ((ls0_8.set (Int.toNat 0) p).set p.toNat 0)), .blk b1 27 (Col.cells x)]) [0, 1, 2, 3, 4, 5] rfl (by decide)).back hpost
            clear hpost
            refine wpList_nil ?_
            refine then_normal ?_
            refine wp_seq ?_
            refine wpr ?_
            refine wpl rfl rfl ht (ev_move ht rfl rfl) ?_
            intro a ht
            refine wpl rfl rfl ht (ev_nilCheck ht rfl rfl) ?_
            intro a ht
            refine wpl rfl rfl ht (ev_fieldAddr ht rfl rfl fo_45_5) ?_
            intro a ht
            refine wpl rfl rfl ht (ev_load ht rfl rfl sc_2 (hm.blk_cell 0 rfl ((seg_col _ _ 141).trans ((seg_col _ _ 3).trans rfl)))) ?_
            intro a ht
            refine wpl rfl rfl ht (ev_cmp ht rfl rfl rfl rfl) ?_
            intro a ht
            refine wpl rfl rfl ht (ev_assign ht rfl rfl) ?_
            intro a ht
            refine wpList_nil ?_
            refine then_normal ?_
            refine wp_ret ?_
            have hres := ht.res (P := Try.prog) (w := w) (rs := [.tmp 6]) (vs := [.bool (decide (t21025.2.2.2.2.2.1 > 0))]) (.tmp rfl .nil)
            obtain rfl := Option.some.inj H
            exact leave ht rfl hres ⟨rfl, ((hm.pick [] rfl (by decide)).pickφ [] rfl).post fun _ h => h⟩
          · replace H := ite_no h21022 H
            refine wpc_no ht rfl (decide_eq_false h21022) ?_
            refine wp_skip ?_
            refine then_normal ?_
            refine wp_seq ?_
            refine wpr ?_
            refine wpl rfl rfl ht (ev_move ht rfl rfl) ?_
            intro a ht
            refine wpl rfl rfl ht (ev_nilCheck ht rfl rfl) ?_
            intro a ht
            refine wpl rfl rfl ht (ev_fieldAddr ht rfl rfl fo_45_5) ?_
            intro a ht
            refine wpl rfl rfl ht (ev_load ht rfl rfl sc_2 (hm.blk_cell 2 rfl ((seg_col _ _ 141).trans ((seg_col _ _ 3).trans rfl)))) ?_
            intro a ht
            refine wpl rfl rfl ht (ev_cmp (r := false) ht rfl rfl rfl (by decide)) ?_
            intro a ht
            refine wpl rfl rfl ht (ev_assign ht rfl rfl) ?_
            intro a ht
            refine wpList_nil ?_
            refine then_normal ?_
            refine wp_ret ?_
            have hres := ht.res (P := Try.prog) (w := w) (rs := [.tmp 6]) (vs := [.bool false]) (.tmp rfl .nil)
            obtain rfl := Option.some.inj H
            exact leave ht rfl hres ⟨rfl, ((hm.pick [] rfl (by decide)).pickφ [] rfl).post fun _ h => h⟩
        · refine wph_step rfl ?_
          refine wpl_alloc rfl rfl ht hm rfl zo_27 ?_
          intro b7520 a ht w hm
          have hS : Ms X (fps []) w0 [.vec As0_1 cs0_2 2 1 ms0_3 (ints ((ls0_4.set (Int.toNat 0) q_).set q_.toNat 0)), .vec As0_5 cs0_6 2 1 ms0_7 (ints ((ls0_8.set (Int.toNat 0) p).set p.toNat 0)), .blk b1 27 (Col.cells x)] [] w := (hm.pick [2, 3, 4] rfl (by decide)).pickφ [] rfl
          refine wpList_nil (qn ⟨hS, ?_⟩)
          refine wph_one (i := 5) (by kernel_rfl) (wph_step rfl ?_)
          obtain ⟨t5520, et5520, H⟩ := bind_get H
          have hcall := spec_l01Renamed.calls q4 _ _ As0_1 cs0_2 ms0_3 x ((ls0_4.set (Int.toNat 0) q_).set q_.toNat 0) _ ((fun (hq : Ms _ _ _ ([] ++ [.blk b7520 27 (Col.cells Col.zero), .blk b6520 27 (Col.cells Col.zero), .vec As0_1 cs0_2 2 1 ms0_3 (ints ((ls0_4.set (Int.toNat 0) q_).set q_.toNat 0)), .vec As0_5 cs0_6 2 1 ms0_7 (ints ((ls0_8.set (Int.toNat 0) p).set p.toNat 0)), .blk b1 27 (Col.cells x)]) _ _) => hq.lend (φp := [IntsAt As0_1 cs0_2 ms0_3 ((ls0_4.set (Int.toNat 0) q_).set q_.toNat 0)]) (allRO_cons (hq.lendVec 2 rfl) (allRO_nil))) (hm.pick (own' := [] ++ [.blk b7520 27 (Col.cells Col.zero), .blk b6520 27 (Col.cells Col.zero), .vec As0_1 cs0_2 2 1 ms0_3 (ints ((ls0_4.set (Int.toNat 0) q_).set q_.toNat 0)), .vec As0_5 cs0_6 2 1 ms0_7 (ints ((ls0_8.set (Int.toNat 0) p).set p.toNat 0)), .blk b1 27 (Col.cells x)]) [0, 1, 2, 3, 4] rfl (by decide))) et5520
          refine wpl_call _ rfl rfl ht rfl rfl rfl rfl can_28 hcall ?_
          clear hcall
          rintro _ w ⟨rfl, hpost⟩ a ht
          replace hm := (hm.pick (own' := [] ++ [.blk b7520 27 (Col.cells Col.zero), .blk b6520 27 (Col.cells Col.zero), .vec As0_1 cs0_2 2 1 ms0_3 (ints ((ls0_4.set (Int.toNat 0) q_).set q_.toNat 0)), .vec As0_5 cs0_6 2 1 ms0_7 (ints ((ls0_8.set (Int.toNat 0) p).set p.toNat 0)), .blk b1 27 (Col.cells x)]) [0, 1, 2, 3, 4] rfl (by decide)).backL hpost
          clear hpost
          have hS : Ms X (fps []) w0 [.vec As0_1 cs0_2 2 1 ms0_3 (ints ((ls0_4.set (Int.toNat 0) q_).set q_.toNat 0)), .vec As0_5 cs0_6 2 1 ms0_7 (ints ((ls0_8.set (Int.toNat 0) p).set p.toNat 0)), .blk b1 27 (Col.cells x)] [] w := (hm.pick [2, 3, 4] rfl (by decide)).pickφ [] rfl
          refine wpList_nil (qn ⟨hS, ?_⟩)
          refine wph_one (i := 8) (by kernel_rfl) (wph_step rfl ?_)
          refine wpl_store_whole 1 rfl rfl ht hm rfl rfl rfl (szn_27.trans (by first | rw [Col.length_cells] | rfl)) rfl (by simp only [Col.length_cells]) (Col.cells_one _) ?_
          intro a ht w hm
          have hS : Ms X (fps []) w0 [.vec As0_1 cs0_2 2 1 ms0_3 (ints ((ls0_4.set (Int.toNat 0) q_).set q_.toNat 0)), .vec As0_5 cs0_6 2 1 ms0_7 (ints ((ls0_8.set (Int.toNat 0) p).set p.toNat 0)), .blk b1 27 (Col.cells x)] [] w := (hm.pick [2, 3, 4] rfl (by decide)).pickφ [] rfl
          refine wpList_nil (qn ⟨hS, ?_⟩)
          refine wph_one (i := 9) (by kernel_rfl) (wph_step rfl ?_)
          refine wpl_store_whole 0 rfl rfl ht hm rfl rfl rfl (szn_27.trans (by first | rw [Col.length_cells] | rfl)) rfl (by simp only [Col.length_cells]) (Col.cells_one _) ?_
          intro a ht w hm
          have hS : Ms X (fps []) w0 [.vec As0_1 cs0_2 2 1 ms0_3 (ints ((ls0_4.set (Int.toNat 0) q_).set q_.toNat 0)), .vec As0_5 cs0_6 2 1 ms0_7 (ints ((ls0_8.set (Int.toNat 0) p).set p.toNat 0)), .blk b1 27 (Col.cells x)] [] w := (hm.pick [2, 3, 4] rfl (by decide)).pickφ [] rfl
          refine wpList_nil (qn ⟨hS, ?_⟩)
          refine wph_done (by kernel_rfl) ?_
          replace hm := hm.pick (own' := [.blk b6520 27 (Col.cells t2520), .blk b7520 27 (Col.cells t5520), .vec As0_1 cs0_2 2 1 ms0_3 (ints ((ls0_4.set (Int.toNat 0) q_).set q_.toNat 0)), .vec As0_5 cs0_6 2 1 ms0_7 (ints ((ls0_8.set (Int.toNat 0) p).set p.toNat 0)), .blk b1 27 (Col.cells x)]) [1, 0, 2, 3, 4] rfl (by decide)
          refine then_normal ?_
          refine wp_seq ?_
          refine wph_begin (fun w => Ms X (fps []) w0 [.blk b6520 27 (Col.cells t2520), .blk b7520 27 (Col.cells t5520), .vec As0_1 cs0_2 2 1 ms0_3 (ints ((ls0_4.set (Int.toNat 0) q_).set q_.toNat 0)), .vec As0_5 cs0_6 2 1 ms0_7 (ints ((ls0_8.set (Int.toNat 0) p).set p.toNat 0)), .blk b1 27 (Col.cells x)] [] w) mixed ?_
          replace hm := hm.drew
          have hS : Ms X (fps []) w0 [.blk b6520 27 (Col.cells t2520), .blk b7520 27 (Col.cells t5520), .vec As0_1 cs0_2 2 1 ms0_3 (ints ((ls0_4.set (Int.toNat 0) q_).set q_.toNat 0)), .vec As0_5 cs0_6 2 1 ms0_7 (ints ((ls0_8.set (Int.toNat 0) p).set p.toNat 0)), .blk b1 27 (Col.cells x)] [] w.drew := (hm.pick [0, 1, 2, 3, 4] rfl (by decide)).pickφ [] rfl
          generalize w.drew = w at hm hS ⊢
          refine wph_take (i := 0) rfl (by kernel_rfl) (by kernel_rfl) (by kernel_rfl) (fun _ _ _ h => h) rfl ht hS (wanted_plain rfl) (fun w hm => ev_load_agg ht rfl rfl (ag_27.trans (by first | rw [Col.length_cells] | rfl)) (hm.blk_all 0 rfl)) ?_
          intro a ht
          refine wph_take (i := 1) rfl (by kernel_rfl) (by kernel_rfl) (by kernel_rfl) (fun _ _ _ h => h) rfl ht hS (wanted_plain rfl) (fun w hm => ev_load_agg ht rfl rfl (ag_27.trans (by first | rw [Col.length_cells] | rfl)) (hm.blk_all 1 rfl)) ?_
          intro a ht
          refine wph_take (i := 2) rfl (by kernel_rfl) (by kernel_rfl) (by kernel_rfl) (fun _ _ _ h => h) rfl ht hS (wanted_plain rfl) (fun w hm => ev_load_agg ht rfl rfl (ag_27.trans (by first | rw [Col.length_cells] | rfl)) (hm.blk_all 0 rfl)) ?_
          intro a ht
          refine wph_take (i := 4) rfl (by kernel_rfl) (by kernel_rfl) (by kernel_rfl) (fun _ _ _ h => h) rfl ht hS (wanted_plain rfl) (fun w hm => ev_load_agg ht rfl rfl (ag_27.trans (by first | rw [Col.length_cells] | rfl)) (hm.blk_all 1 rfl)) ?_
          intro a ht
          refine wph_one (i := 3) (by kernel_rfl) (wph_step rfl ?_)
          obtain ⟨t14520, et14520, H⟩ := bind_get H
          have hcall := spec_l06Types.calls q4 _ _ t2520 _ ((fun (hq : Ms _ _ _ ([] ++ [.blk b6520 27 (Col.cells t2520), .blk b7520 27 (Col.cells t5520), .vec As0_1 cs0_2 2 1 ms0_3 (ints ((ls0_4.set (Int.toNat 0) q_).set q_.toNat 0)), .vec As0_5 cs0_6 2 1 ms0_7 (ints ((ls0_8.set (Int.toNat 0) p).set p.toNat 0)), .blk b1 27 (Col.cells x)]) _ _) => hq.lend (φp := []) (allRO_nil)) (hm.pick (own' := [] ++ [.blk b6520 27 (Col.cells t2520), .blk b7520 27 (Col.cells t5520), .vec As0_1 cs0_2 2 1 ms0_3 (ints ((ls0_4.set (Int.toNat 0) q_).set q_.toNat 0)), .vec As0_5 cs0_6 2 1 ms0_7 (ints ((ls0_8.set (Int.toNat 0) p).set p.toNat 0)), .blk b1 27 (Col.cells x)]) [0, 1, 2, 3, 4] rfl (by decide))) et14520
          refine wpl_call _ rfl rfl ht rfl rfl rfl rfl can_44 hcall ?_
          clear hcall
          rintro _ w ⟨A14521, c14522, m14523, rfl, hpost⟩ a ht
          replace hm := (hm.pick (own' := [] ++ [.blk b6520 27 (Col.cells t2520), .blk b7520 27 (Col.cells t5520), .vec As0_1 cs0_2 2 1 ms0_3 (ints ((ls0_4.set (Int.toNat 0) q_).set q_.toNat 0)), .vec As0_5 cs0_6 2 1 ms0_7 (ints ((ls0_8.set (Int.toNat 0) p).set p.toNat 0)), .blk b1 27 (Col.cells x)]) [0, 1, 2, 3, 4] rfl (by decide)).backL hpost
          clear hpost
          have hS : Ms X (fps []) w0 [.blk b6520 27 (Col.cells t2520), .blk b7520 27 (Col.cells t5520), .vec As0_1 cs0_2 2 1 ms0_3 (ints ((ls0_4.set (Int.toNat 0) q_).set q_.toNat 0)), .vec As0_5 cs0_6 2 1 ms0_7 (ints ((ls0_8.set (Int.toNat 0) p).set p.toNat 0)), .blk b1 27 (Col.cells x)] [] w := (hm.pick [1, 2, 3, 4, 5] rfl (by decide)).pickφ [] rfl
          refine wpList_nil (qn ⟨hS, ?_⟩)
          refine wph_one (i := 5) (by kernel_rfl) (wph_step rfl ?_)
          obtain ⟨t16520, et16520, H⟩ := bind_get H
          have hcall := spec_l06Types.calls q4 _ _ t5520 _ ((fun (hq : Ms _ _ _ ([] ++ [.vec A14521 c14522 2 1 m14523 (ints t14520), .blk b6520 27 (Col.cells t2520), .blk b7520 27 (Col.cells t5520), .vec As0_1 cs0_2 2 1 ms0_3 (ints ((ls0_4.set (Int.toNat 0) q_).set q_.toNat 0)), .vec As0_5 cs0_6 2 1 ms0_7 (ints ((ls0_8.set (Int.toNat 0) p).set p.toNat 0)), .blk b1 27 (Col.cells x)]) _ _) => hq.lend (φp := []) (allRO_nil)) (hm.pick (own' := [] ++ [.vec A14521 c14522 2 1 m14523 (ints t14520), .blk b6520 27 (Col.cells t2520), .blk b7520 27 (Col.cells t5520), .vec As0_1 cs0_2 2 1 ms0_3 (ints ((ls0_4.set (Int.toNat 0) q_).set q_.toNat 0)), .vec As0_5 cs0_6 2 1 ms0_7 (ints ((ls0_8.set (Int.toNat 0) p).set p.toNat 0)), .blk b1 27 (Col.cells x)]) [0, 1, 2, 3, 4, 5] rfl (by decide))) et16520
          refine wpl_call _ rfl rfl ht rfl rfl rfl rfl can_44 hcall ?_
          clear hcall
          rintro _ w ⟨A16521, c16522, m16523, rfl, hpost⟩ a ht
          replace hm := (hm.pick (own' := [] ++ [.vec A14521 c14522 2 1 m14523 (ints t14520), .blk b6520 27 (Col.cells t2520), .blk b7520 27 (Col.cells t5520), .vec As0_1 cs0_2 2 1 ms0_3 (ints ((ls0_4.set (Int.toNat 0) q_).set q_.toNat 0)), .vec As0_5 cs0_6 2 1 ms0_7 (ints ((ls0_8.set (Int.toNat 0) p).set p.toNat 0)), .blk b1 27 (Col.cells x)]) [0, 1, 2, 3, 4, 5] rfl (by decide)).backL hpost
          clear hpost
          have hS : Ms X (fps []) w0 [.blk b6520 27 (Col.cells t2520), .blk b7520 27 (Col.cells t5520), .vec As0_1 cs0_2 2 1 ms0_3 (ints ((ls0_4.set (Int.toNat 0) q_).set q_.toNat 0)), .vec As0_5 cs0_6 2 1 ms0_7 (ints ((ls0_8.set (Int.toNat 0) p).set p.toNat 0)), .blk b1 27 (Col.cells x)] [] w := (hm.pick [2, 3, 4, 5, 6] rfl (by decide)).pickφ [] rfl
          refine wpList_nil (qn ⟨hS, ?_⟩)
          refine wph_take (i := 6) rfl (by kernel_rfl) (by kernel_rfl) (by kernel_rfl) (fun _ _ _ h => h) rfl ht hS (wanted_plain rfl) (fun w hm => ev_build (vs := (Col.cells t2520 ++ (Col.cells t5520 ++ ([.slice A14521 m14523 c14522, .slice A16521 m16523 c16522, .int .i64 1, .int .i64 0, .slice none 0 0])))) ht rfl bi_45 rfl (fill_two _ _ _ _ _ _ _ _ _ _ rfl rfl rfl)) ?_
          intro a ht
          refine wph_one (i := 7) (by kernel_rfl) (wph_step rfl ?_)
          refine wpl_box rfl rfl ht hm rfl rfl rfl ?_
          intro b18520 a ht w hm
          have hS : Ms X (fps []) w0 [.blk b6520 27 (Col.cells t2520), .blk b7520 27 (Col.cells t5520), .vec As0_1 cs0_2 2 1 ms0_3 (ints ((ls0_4.set (Int.toNat 0) q_).set q_.toNat 0)), .vec As0_5 cs0_6 2 1 ms0_7 (ints ((ls0_8.set (Int.toNat 0) p).set p.toNat 0)), .blk b1 27 (Col.cells x)] [] w := (hm.pick [3, 4, 5, 6, 7] rfl (by decide)).pickφ [] rfl
          refine wpList_nil (qn ⟨hS, ?_⟩)
          refine wph_take (i := 8) rfl (by kernel_rfl) (by kernel_rfl) (by kernel_rfl) (fun _ _ _ h => h) rfl ht hS (wanted_plain rfl) (fun w hm => ev_assign ht rfl rfl) ?_
          intro a ht
          refine wph_done (by kernel_rfl) ?_
          replace hm := hm.pick (own' := [.vec A14521 c14522 2 1 m14523 (ints t14520), .vec A16521 c16522 2 1 m16523 (ints t16520), .blk b18520 45 (Col.cells t2520 ++ (Col.cells t5520 ++ ([.slice A14521 m14523 c14522, .slice A16521 m16523 c16522, .int .i64 1, .int .i64 0, .slice none 0 0]))), .blk b6520 27 (Col.cells t2520), .blk b7520 27 (Col.cells t5520), .vec As0_1 cs0_2 2 1 ms0_3 (ints ((ls0_4.set (Int.toNat 0) q_).set q_.toNat 0)), .vec As0_5 cs0_6 2 1 ms0_7 (ints ((ls0_8.set (Int.toNat 0) p).set p.toNat 0)), .blk b1 27 (Col.cells x)]) [2, 1, 0, 3, 4, 5, 6, 7] rfl (by decide)
          refine then_normal ?_
          refine wp_seq ?_
          refine wp_seq ?_
          refine wph_begin (fun w => Ms X (fps []) w0 [.vec A14521 c14522 2 1 m14523 (ints t14520), .vec A16521 c16522 2 1 m16523 (ints t16520), .blk b18520 45 (Col.cells t2520 ++ (Col.cells t5520 ++ ([.slice A14521 m14523 c14522, .slice A16521 m16523 c16522, .int .i64 1, .int .i64 0, .slice none 0 0]))), .blk b6520 27 (Col.cells t2520), .blk b7520 27 (Col.cells t5520), .vec As0_1 cs0_2 2 1 ms0_3 (ints ((ls0_4.set (Int.toNat 0) q_).set q_.toNat 0)), .vec As0_5 cs0_6 2 1 ms0_7 (ints ((ls0_8.set (Int.toNat 0) p).set p.toNat 0)), .blk b1 27 (Col.cells x)] [] w) mixed ?_
          replace hm := hm.drew
          have hS : Ms X (fps []) w0 [.vec A14521 c14522 2 1 m14523 (ints t14520), .vec A16521 c16522 2 1 m16523 (ints t16520), .blk b18520 45 (Col.cells t2520 ++ (Col.cells t5520 ++ ([.slice A14521 m14523 c14522, .slice A16521 m16523 c16522, .int .i64 1, .int .i64 0, .slice none 0 0]))), .blk b6520 27 (Col.cells t2520), .blk b7520 27 (Col.cells t5520), .vec As0_1 cs0_2 2 1 ms0_3 (ints ((ls0_4.set (Int.toNat 0) q_).set q_.toNat 0)), .vec As0_5 cs0_6 2 1 ms0_7 (ints ((ls0_8.set (Int.toNat 0) p).set p.toNat 0)), .blk b1 27 (Col.cells x)] [] w.drew := (hm.pick [0, 1, 2, 3, 4, 5, 6, 7] rfl (by decide)).pickφ [] rfl
          generalize w.drew = w at hm hS ⊢
          refine wph_take (i := 0) rfl (by kernel_rfl) (by kernel_rfl) (by kernel_rfl) (fun _ _ _ h => h) rfl ht hS (wanted_plain rfl) (fun w hm => ev_move ht rfl rfl) ?_
          intro a ht
          refine wph_take (i := 1) rfl (by kernel_rfl) (by kernel_rfl) (by kernel_rfl) (fun _ _ _ h => h) rfl ht hS (wanted_plain rfl) (fun w hm => ev_nilCheck ht rfl rfl) ?_
          intro a ht
          refine wph_take (i := 2) rfl (by kernel_rfl) (by kernel_rfl) (by kernel_rfl) (fun _ _ _ h => h) rfl ht hS (wanted_plain rfl) (fun w hm => ev_fieldAddr ht rfl rfl fo_45_2) ?_
          intro a ht
          refine wph_take (i := 3) rfl (by kernel_rfl) (by kernel_rfl) (by kernel_rfl) (fun _ _ _ h => h) rfl ht hS (wanted_plain rfl) (fun w hm => ev_load ht rfl rfl sc_43 (hm.blk_cell 2 rfl ((seg_col _ _ 138).trans ((seg_col _ _ 0).trans rfl)))) ?_
          intro a ht
          obtain ⟨t21020, et21020, H⟩ := bind_get H
          refine wph_take (i := 4) rfl (by kernel_rfl) (by kernel_rfl) (by kernel_rfl) (fun _ _ _ h => h) rfl ht hS (wanted_plain rfl) (fun w hm => ev_index_ints ht rfl rfl rfl so_43 (hm.vec_row 0 rfl) et21020) ?_
          intro a ht
          refine wph_take (i := 5) rfl (by kernel_rfl) (by kernel_rfl) (by kernel_rfl) (fun _ _ _ h => h) rfl ht hS (wanted_plain rfl) (fun w hm => ev_load ht rfl rfl sc_2 (RowAt.cell (hm.vec_row 0 rfl) (ints_get et21020) rfl)) ?_
          intro a ht
          refine wph_take (i := 6) rfl (by kernel_rfl) (by kernel_rfl) (by kernel_rfl) (fun _ _ _ h => h) rfl ht hS (wanted_plain rfl) (fun w hm => ev_move ht rfl rfl) ?_
          intro a ht
          refine wph_take (i := 7) rfl (by kernel_rfl) (by kernel_rfl) (by kernel_rfl) (fun _ _ _ h => h) rfl ht hS (wanted_plain rfl) (fun w hm => ev_nilCheck ht rfl rfl) ?_
          intro a ht
          refine wph_take (i := 8) rfl (by kernel_rfl) (by kernel_rfl) (by kernel_rfl) (fun _ _ _ h => h) rfl ht hS (wanted_plain rfl) (fun w hm => ev_fieldAddr ht rfl rfl fo_45_3) ?_
          intro a ht
          refine wph_take (i := 9) rfl (by kernel_rfl) (by kernel_rfl) (by kernel_rfl) (fun _ _ _ h => h) rfl ht hS (wanted_plain rfl) (fun w hm => ev_load ht rfl rfl sc_43 (hm.blk_cell 2 rfl ((seg_col _ _ 139).trans ((seg_col _ _ 1).trans rfl)))) ?_
          intro a ht
          obtain ⟨t21021, et21021, H⟩ := bind_get H
          refine wph_take (i := 10) rfl (by kernel_rfl) (by kernel_rfl) (by kernel_rfl) (fun _ _ _ h => h) rfl ht hS (wanted_plain rfl) (fun w hm => ev_index_ints ht rfl rfl rfl so_43 (hm.vec_row 1 rfl) et21021) ?_
          intro a ht
          refine wph_take (i := 11) rfl (by kernel_rfl) (by kernel_rfl) (by kernel_rfl) (fun _ _ _ h => h) rfl ht hS (wanted_plain rfl) (fun w hm => ev_load ht rfl rfl sc_2 (RowAt.cell (hm.vec_row 1 rfl) (ints_get et21021) rfl)) ?_
          intro a ht
          refine wph_take (i := 12) rfl (by kernel_rfl) (by kernel_rfl) (by kernel_rfl) (fun _ _ _ h => h) rfl ht hS (wanted_plain rfl) (fun w hm => ev_cmp ht rfl rfl rfl rfl) ?_
          intro a ht
          refine wph_done (by kernel_rfl) ?_
          refine then_normal ?_
          by_cases h21022 : t21020 = t21021
          · replace H := ite_yes h21022 H
            refine wpc_yes ht rfl (decide_eq_true h21022) ?_
            refine wpr ?_
            refine wpl rfl rfl ht (ev_move ht rfl rfl) ?_
            intro a ht
            refine wpl_build_ints (l := [0]) rfl rfl ht hm rfl und_43 zo_2 sz1_2 (by decide) rfl rfl rfl ?_
            intro A21023 a ht w hm
            replace hm : Ms _ _ _ _ (IntsAt A14521 c14522 m14523 t14520 :: _) w := hm.shutVec 1 rfl
            replace hm : Ms _ _ _ _ (IntsAt A16521 c16522 m16523 t16520 :: _) w := hm.shutVec 1 rfl
            replace hm : Ms _ _ _ _ (IntsAt A21023 1 1 ([0]) :: _) w := hm.shutVec 0 rfl
            replace hm : Ms _ _ _ _ (IntsAt none 0 0 ([] : List Int) :: _) w := hm.nilRow none 1
            obtain ⟨t21025, et21025, H⟩ := bind_get H
            have hcall := spec_l06Go.calls q4 _ _ b18520 A14521 c14522 m14523 A16521 c16522 m16523 none 0 0 A21023 1 1 t2520 t5520 t14520 t16520 1 0 ([]) ([0]) 1 _ ((hm.pick (own' := [.blk b18520 45 (Col.cells t2520 ++ (Col.cells t5520 ++ ([.slice A14521 m14523 c14522, .slice A16521 m16523 c16522, .int .i64 1, .int .i64 0, .slice none 0 0])))] ++ [.blk b6520 27 (Col.cells t2520), .blk b7520 27 (Col.cells t5520), .vec As0_1 cs0_2 2 1 ms0_3 (ints ((ls0_4.set (Int.toNat 0) q_).set q_.toNat 0)), .vec As0_5 cs0_6 2 1 ms0_7 (ints ((ls0_8.set (Int.toNat 0) p).set p.toNat 0)), .blk b1 27 (Col.cells x)]) [0, 1, 2, 3, 4, 5] rfl (by decide)).give (passed := [.blk b18520 45 (Col.cells t2520 ++ (Col.cells t5520 ++ ([.slice A14521 m14523 c14522, .slice A16521 m16523 c16522, .int .i64 1, .int .i64 0, .slice none 0 0])))]) (rest := [.blk b6520 27 (Col.cells t2520), .blk b7520 27 (Col.cells t5520), .vec As0_1 cs0_2 2 1 ms0_3 (ints ((ls0_4.set (Int.toNat 0) q_).set q_.toNat 0)), .vec As0_5 cs0_6 2 1 ms0_7 (ints ((ls0_8.set (Int.toNat 0) p).set p.toNat 0)), .blk b1 27 (Col.cells x)]) (φp := [IntsAt A14521 c14522 m14523 t14520, IntsAt A16521 c16522 m16523 t16520, IntsAt none 0 0 ([] : List Int), IntsAt A21023 1 1 ([0])]) [3, 2, 0, 1] rfl) et21025
            refine wpl_call _ rfl rfl ht rfl rfl rfl rfl can_45 hcall ?_
            clear hcall
            rintro _ w ⟨A21026, c21027, m21028, A21029, c21030, m21031, A21032, c21033, m21034, rfl, hpost⟩ a ht
            replace hm := (hm.pick (own' := [.blk b18520 45 (Col.cells t2520 ++ (Col.cells t5520 ++ ([.slice A14521 m14523 c14522, .slice A16521 m16523 c16522, .int .i64 1, .int .i64 0, .slice none 0 0])))] ++ [.blk b6520 27 (Col.cells t2520), .blk b7520 27 (Col.cells t5520), .vec As0_1 cs0_2 2 1 ms0_3 (ints ((ls0_4.set (Int.toNat 0) q_).set q_.toNat 0)), .vec As0_5 cs0_6 2 1 ms0_7 (ints ((ls0_8.set (Int.toNat 0) p).set p.toNat 0)), .blk b1 27 (Col.cells x)]) [0, 1, 2, 3, 4, 5] rfl (by decide)).back hpost
            clear hpost
            refine wpList_nil ?_
            refine then_normal ?_
            refine wp_seq ?_
            refine wpr ?_
            refine wpl rfl rfl ht (ev_move ht rfl rfl) ?_
            intro a ht
            refine wpl rfl rfl ht (ev_nilCheck ht rfl rfl) ?_
            intro a ht
            refine wpl rfl rfl ht (ev_fieldAddr ht rfl rfl fo_45_5) ?_
            intro a ht
            refine wpl rfl rfl ht (ev_load ht rfl rfl sc_2 (hm.blk_cell 0 rfl ((seg_col _ _ 141).trans ((seg_col _ _ 3).trans rfl)))) ?_
            intro a ht
            refine wpl rfl rfl ht (ev_cmp ht rfl rfl rfl rfl) ?_
            intro a ht
            refine wpl rfl rfl ht (ev_assign ht rfl rfl) ?_
            intro a ht
            refine wpList_nil ?_
            refine then_normal ?_
            refine wp_ret ?_
            have hres := ht.res (P := Try.prog) (w := w) (rs := [.tmp 6]) (vs := [.bool (decide (t21025.2.2.2.2.2.1 > 0))]) (.tmp rfl .nil)
            obtain rfl := Option.some.inj H
            exact leave ht rfl hres ⟨rfl, ((hm.pick [] rfl (by decide)).pickφ [] rfl).post fun _ h => h⟩
          · replace H := ite_no h21022 H
            refine wpc_no ht rfl (decide_eq_false h21022) ?_
            refine wp_skip ?_
            refine then_normal ?_
            refine wp_seq ?_
            refine wpr ?_
            refine wpl rfl rfl ht (ev_move ht rfl rfl) ?_
            intro a ht
            refine wpl rfl rfl ht (ev_nilCheck ht rfl rfl) ?_
            intro a ht
            refine wpl rfl rfl ht (ev_fieldAddr ht rfl rfl fo_45_5) ?_
            intro a ht
            refine wpl rfl rfl ht (ev_load ht rfl rfl sc_2 (hm.blk_cell 2 rfl ((seg_col _ _ 141).trans ((seg_col _ _ 3).trans rfl)))) ?_
            intro a ht
            refine wpl rfl rfl ht (ev_cmp (r := false) ht rfl rfl rfl (by decide)) ?_
            intro a ht
            refine wpl rfl rfl ht (ev_assign ht rfl rfl) ?_
            intro a ht
            refine wpList_nil ?_
            refine then_normal ?_
            refine wp_ret ?_
            have hres := ht.res (P := Try.prog) (w := w) (rs := [.tmp 6]) (vs := [.bool false]) (.tmp rfl .nil)
            obtain rfl := Option.some.inj H
            exact leave ht rfl hres ⟨rfl, ((hm.pick [] rfl (by decide)).pickφ [] rfl).post fun _ h => h⟩
      · refine wph_step rfl ?_
        refine wpl_alloc rfl rfl ht hm rfl zo_27 ?_
        intro b7520 a ht w hm
        have hS : Ms X (fps []) w0 [.vec As0_1 cs0_2 2 1 ms0_3 (ints ((ls0_4.set (Int.toNat 0) q_).set q_.toNat 0)), .vec As0_5 cs0_6 2 1 ms0_7 (ints ((ls0_8.set (Int.toNat 0) p).set p.toNat 0)), .blk b1 27 (Col.cells x)] [] w := (hm.pick [2, 3, 4] rfl (by decide)).pickφ [] rfl
        refine wpList_nil (qn ⟨hS, ?_⟩)
        refine wph_one (i := 2) (by kernel_rfl) (wph_step rfl ?_)
        obtain ⟨t2520, et2520, H⟩ := bind_get H
        have hcall := spec_l01Renamed.calls q4 _ _ As0_5 cs0_6 ms0_7 x ((ls0_8.set (Int.toNat 0) p).set p.toNat 0) _ ((fun (hq : Ms _ _ _ ([] ++ [.blk b7520 27 (Col.cells Col.zero), .blk b6520 27 (Col.cells Col.zero), .vec As0_1 cs0_2 2 1 ms0_3 (ints ((ls0_4.set (Int.toNat 0) q_).set q_.toNat 0)), .vec As0_5 cs0_6 2 1 ms0_7 (ints ((ls0_8.set (Int.toNat 0) p).set p.toNat 0)), .blk b1 27 (Col.cells x)]) _ _) => hq.lend (φp := [IntsAt As0_5 cs0_6 ms0_7 ((ls0_8.set (Int.toNat 0) p).set p.toNat 0)]) (allRO_cons (hq.lendVec 3 rfl) (allRO_nil))) (hm.pick (own' := [] ++ [.blk b7520 27 (Col.cells Col.zero), .blk b6520 27 (Col.cells Col.zero), .vec As0_1 cs0_2 2 1 ms0_3 (ints ((ls0_4.set (Int.toNat 0) q_).set q_.toNat 0)), .vec As0_5 cs0_6 2 1 ms0_7 (ints ((ls0_8.set (Int.toNat 0) p).set p.toNat 0)), .blk b1 27 (Col.cells x)]) [0, 1, 2, 3, 4] rfl (by decide))) et2520
        refine wpl_call _ rfl rfl ht rfl rfl rfl rfl can_28 hcall ?_
        clear hcall
        rintro _ w ⟨rfl, hpost⟩ a ht
        replace hm := (hm.pick (own' := [] ++ [.blk b7520 27 (Col.cells Col.zero), .blk b6520 27 (Col.cells Col.zero), .vec As0_1 cs0_2 2 1 ms0_3 (ints ((ls0_4.set (Int.toNat 0) q_).set q_.toNat 0)), .vec As0_5 cs0_6 2 1 ms0_7 (ints ((ls0_8.set (Int.toNat 0) p).set p.toNat 0)), .blk b1 27 (Col.cells x)]) [0, 1, 2, 3, 4] rfl (by decide)).backL hpost
        clear hpost
        have hS : Ms X (fps []) w0 [.vec As0_1 cs0_2 2 1 ms0_3 (ints ((ls0_4.set (Int.toNat 0) q_).set q_.toNat 0)), .vec As0_5 cs0_6 2 1 ms0_7 (ints ((ls0_8.set (Int.toNat 0) p).set p.toNat 0)), .blk b1 27 (Col.cells x)] [] w := (hm.pick [2, 3, 4] rfl (by decide)).pickφ [] rfl
        refine wpList_nil (qn ⟨hS, ?_⟩)
        refine wph_one (i := 5) (by kernel_rfl) (wph_step rfl ?_)
        obtain ⟨t5520, et5520, H⟩ := bind_get H
        have hcall := spec_l01Renamed.calls q4 _ _ As0_1 cs0_2 ms0_3 x ((ls0_4.set (Int.toNat 0) q_).set q_.toNat 0) _ ((fun (hq : Ms _ _ _ ([] ++ [.blk b7520 27 (Col.cells Col.zero), .blk b6520 27 (Col.cells Col.zero), .vec As0_1 cs0_2 2 1 ms0_3 (ints ((ls0_4.set (Int.toNat 0) q_).set q_.toNat 0)), .vec As0_5 cs0_6 2 1 ms0_7 (ints ((ls0_8.set (Int.toNat 0) p).set p.toNat 0)), .blk b1 27 (Col.cells x)]) _ _) => hq.lend (φp := [IntsAt As0_1 cs0_2 ms0_3 ((ls0_4.set (Int.toNat 0) q_).set q_.toNat 0)]) (allRO_cons (hq.lendVec 2 rfl) (allRO_nil))) (hm.pick (own' := [] ++ [.blk b7520 27 (Col.cells Col.zero), .blk b6520 27 (Col.cells Col.zero), .vec As0_1 cs0_2 2 1 ms0_3 (ints ((ls0_4.set (Int.toNat 0) q_).set q_.toNat 0)), .vec As0_5 cs0_6 2 1 ms0_7 (ints ((ls0_8.set (Int.toNat 0) p).set p.toNat 0)), .blk b1 27 (Col.cells x)]) [0, 1, 2, 3, 4] rfl (by decide))) et5520
        refine wpl_call _ rfl rfl ht rfl rfl rfl rfl can_28 hcall ?_
        clear hcall
        rintro _ w ⟨rfl, hpost⟩ a ht
        replace hm := (hm.pick (own' := [] ++ [.blk b7520 27 (Col.cells Col.zero), .blk b6520 27 (Col.cells Col.zero), .vec As0_1 cs0_2 2 1 ms0_3 (ints ((ls0_4.set (Int.toNat 0) q_).set q_.toNat 0)), .vec As0_5 cs0_6 2 1 ms0_7 (ints ((ls0_8.set (Int.toNat 0) p).set p.toNat 0)), .blk b1 27 (Col.cells x)]) [0, 1, 2, 3, 4] rfl (by decide)).backL hpost
        clear hpost
        have hS : Ms X (fps []) w0 [.vec As0_1 cs0_2 2 1 ms0_3 (ints ((ls0_4.set (Int.toNat 0) q_).set q_.toNat 0)), .vec As0_5 cs0_6 2 1 ms0_7 (ints ((ls0_8.set (Int.toNat 0) p).set p.toNat 0)), .blk b1 27 (Col.cells x)] [] w := (hm.pick [2, 3, 4] rfl (by decide)).pickφ [] rfl
        refine wpList_nil (qn ⟨hS, ?_⟩)
        refine wph_one (i := 8) (by kernel_rfl) (wph_step rfl ?_)
        refine wpl_store_whole 1 rfl rfl ht hm rfl rfl rfl (szn_27.trans (by first | rw [Col.length_cells] | rfl)) rfl (by simp only [Col.length_cells]) (Col.cells_one _) ?_
        intro a ht w hm
        have hS : Ms X (fps []) w0 [.vec As0_1 cs0_2 2 1 ms0_3 (ints ((ls0_4.set (Int.toNat 0) q_).set q_.toNat 0)), .vec As0_5 cs0_6 2 1 ms0_7 (ints ((ls0_8.set (Int.toNat 0) p).set p.toNat 0)), .blk b1 27 (Col.cells x)] [] w := (hm.pick [2, 3, 4] rfl (by decide)).pickφ [] rfl
        refine wpList_nil (qn ⟨hS, ?_⟩)
        refine wph_one (i := 9) (by kernel_rfl) (wph_step rfl ?_)
        refine wpl_store_whole 0 rfl rfl ht hm rfl rfl rfl (szn_27.trans (by first | rw [Col.length_cells] | rfl)) rfl (by simp only [Col.length_cells]) (Col.cells_one _) ?_
        intro a ht w hm
        have hS : Ms X (fps []) w0 [.vec As0_1 cs0_2 2 1 ms0_3 (ints ((ls0_4.set (Int.toNat 0) q_).set q_.toNat 0)), .vec As0_5 cs0_6 2 1 ms0_7 (ints ((ls0_8.set (Int.toNat 0) p).set p.toNat 0)), .blk b1 27 (Col.cells x)] [] w := (hm.pick [2, 3, 4] rfl (by decide)).pickφ [] rfl
        refine wpList_nil (qn ⟨hS, ?_⟩)
        refine wph_done (by kernel_rfl) ?_
        replace hm := hm.pick (own' := [.blk b6520 27 (Col.cells t2520), .blk b7520 27 (Col.cells t5520), .vec As0_1 cs0_2 2 1 ms0_3 (ints ((ls0_4.set (Int.toNat 0) q_).set q_.toNat 0)), .vec As0_5 cs0_6 2 1 ms0_7 (ints ((ls0_8.set (Int.toNat 0) p).set p.toNat 0)), .blk b1 27 (Col.cells x)]) [1, 0, 2, 3, 4] rfl (by decide)
        refine then_normal ?_
        refine wp_seq ?_
        refine wph_begin (fun w => Ms X (fps []) w0 [.blk b6520 27 (Col.cells t2520), .blk b7520 27 (Col.cells t5520), .vec As0_1 cs0_2 2 1 ms0_3 (ints ((ls0_4.set (Int.toNat 0) q_).set q_.toNat 0)), .vec As0_5 cs0_6 2 1 ms0_7 (ints ((ls0_8.set (Int.toNat 0) p).set p.toNat 0)), .blk b1 27 (Col.cells x)] [] w) mixed ?_
        replace hm := hm.drew
        have hS : Ms X (fps []) w0 [.blk b6520 27 (Col.cells t2520), .blk b7520 27 (Col.cells t5520), .vec As0_1 cs0_2 2 1 ms0_3 (ints ((ls0_4.set (Int.toNat 0) q_).set q_.toNat 0)), .vec As0_5 cs0_6 2 1 ms0_7 (ints ((ls0_8.set (Int.toNat 0) p).set p.toNat 0)), .blk b1 27 (Col.cells x)] [] w.drew := (hm.pick [0, 1, 2, 3, 4] rfl (by decide)).pickφ [] rfl
        generalize w.drew = w at hm hS ⊢
        refine wph_take (i := 0) rfl (by kernel_rfl) (by kernel_rfl) (by kernel_rfl) (fun _ _ _ h => h) rfl ht hS (wanted_plain rfl) (fun w hm => ev_load_agg ht rfl rfl (ag_27.trans (by first | rw [Col.length_cells] | rfl)) (hm.blk_all 0 rfl)) ?_
        intro a ht
        refine wph_take (i := 1) rfl (by kernel_rfl) (by kernel_rfl) (by kernel_rfl) (fun _ _ _ h => h) rfl ht hS (wanted_plain rfl) (fun w hm => ev_load_agg ht rfl rfl (ag_27.trans (by first | rw [Col.length_cells] | rfl)) (hm.blk_all 1 rfl)) ?_
        intro a ht
        refine wph_take (i := 2) rfl (by kernel_rfl) (by kernel_rfl) (by kernel_rfl) (fun _ _ _ h => h) rfl ht hS (wanted_plain rfl) (fun w hm => ev_load_agg ht rfl rfl (ag_27.trans (by first | rw [Col.length_cells] | rfl)) (hm.blk_all 0 rfl)) ?_
        intro a ht
        refine wph_take (i := 4) rfl (by kernel_rfl) (by kernel_rfl) (by kernel_rfl) (fun _ _ _ h => h) rfl ht hS (wanted_plain rfl) (fun w hm => ev_load_agg ht rfl rfl (ag_27.trans (by first | rw [Col.length_cells] | rfl)) (hm.blk_all 1 rfl)) ?_
        intro a ht
        refine wph_one (i := 3) (by kernel_rfl) (wph_step rfl ?_)
        obtain ⟨t14520, et14520, H⟩ := bind_get H
        have hcall := spec_l06Types.calls q4 _ _ t2520 _ ((fun (hq : Ms _ _ _ ([] ++ [.blk b6520 27 (Col.cells t2520), .blk b7520 27 (Col.cells t5520), .vec As0_1 cs0_2 2 1 ms0_3 (ints ((ls0_4.set (Int.toNat 0) q_).set q_.toNat 0)), .vec As0_5 cs0_6 2 1 ms0_7 (ints ((ls0_8.set (Int.toNat 0) p).set p.toNat 0)), .blk b1 27 (Col.cells x)]) _ _) => hq.lend (φp := []) (allRO_nil)) (hm.pick (own' := [] ++ [.blk b6520 27 (Col.cells t2520), .blk b7520 27 (Col.cells t5520), .vec As0_1 cs0_2 2 1 ms0_3 (ints ((ls0_4.set (Int.toNat 0) q_).set q_.toNat 0)), .vec As0_5 cs0_6 2 1 ms0_7 (ints ((ls0_8.set (Int.toNat 0) p).set p.toNat 0)), .blk b1 27 (Col.cells x)]) [0, 1, 2, 3, 4] rfl (by decide))) et14520
        refine wpl_call _ rfl rfl ht rfl rfl rfl rfl can_44 hcall ?_
        clear hcall
        rintro _ w ⟨A14521, c14522, m14523, rfl, hpost⟩ a ht
        replace hm := (hm.pick (own' := [] ++ [.blk b6520 27 (Col.cells t2520), .blk b7520 27 (Col.cells t5520), .vec As0_1 cs0_2 2 1 ms0_3 (ints ((ls0_4.set (Int.toNat 0) q_).set q_.toNat 0)), .vec As0_5 cs0_6 2 1 ms0_7 (ints ((ls0_8.set (Int.toNat 0) p).set p.toNat 0)), .blk b1 27 (Col.cells x)]) [0, 1, 2, 3, 4] rfl (by decide)).backL hpost
        clear hpost
        have hS : Ms X (fps []) w0 [.blk b6520 27 (Col.cells t2520), .blk b7520 27 (Col.cells t5520), .vec As0_1 cs0_2 2 1 ms0_3 (ints ((ls0_4.set (Int.toNat 0) q_).set q_.toNat 0)), .vec As0_5 cs0_6 2 1 ms0_7 (ints ((ls0_8.set (Int.toNat 0) p).set p.toNat 0)), .blk b1 27 (Col.cells x)] [] w := (hm.pick [1, 2, 3, 4, 5] rfl (by decide)).pickφ [] rfl
        refine wpList_nil (qn ⟨hS, ?_⟩)
        refine wph_one (i := 5) (by kernel_rfl) (wph_step rfl ?_)
        obtain ⟨t16520, et16520, H⟩ := bind_get H
        have hcall := spec_l06Types.calls q4 _ _ t5520 _ ((fun (hq : Ms _ _ _ ([] ++ [.vec A14521 c14522 2 1 m14523 (ints t14520), .blk b6520 27 (Col.cells t2520), .blk b7520 27 (Col.cells t5520), .vec As0_1 cs0_2 2 1 ms0_3 (ints ((ls0_4.set (Int.toNat 0) q_).set q_.toNat 0)), .vec As0_5 cs0_6 2 1 ms0_7 (ints ((ls0_8.set (Int.toNat 0) p).set p.toNat 0)), .blk b1 27 (Col.cells x)]) _ _) => hq.lend (φp := []) (allRO_nil)) (hm.pick (own' := [] ++ [.vec A14521 c14522 2 1 m14523 (ints t14520), .blk b6520 27 (Col.cells t2520), .blk b7520 27 (Col.cells t5520), .vec As0_1 cs0_2 2 1 ms0_3 (ints ((ls0_4.set (Int.toNat 0) q_).set q_.toNat 0)), .vec As0_5 cs0_6 2 1 ms0_7 (ints ((ls0_8.set (Int.toNat 0) p).set p.toNat 0)), .blk b1 27 (Col.cells x)]) [0, 1, 2, 3, 4, 5] rfl (by decide))) et16520
        refine wpl_call _ rfl rfl ht rfl rfl rfl rfl can_44 hcall ?_
        clear hcall
        rintro _ w ⟨A16521, c16522, m16523, rfl, hpost⟩ a ht
        replace hm := (hm.pick (own' := [] ++ [.vec A14521 c14522 2 1 m14523 (ints t14520), .blk b6520 27 (Col.cells t2520), .blk b7520 27 (Col.cells t5520), .vec As0_1 cs0_2 2 1 ms0_3 (ints ((ls0_4.set (Int.toNat 0) q_).set q_.toNat 0)), .vec As0_5 cs0_6 2 1 ms0_7 (ints ((ls0_8.set (Int.toNat 0) p).set p.toNat 0)), .blk b1 27 (Col.cells x)]) [0, 1, 2, 3, 4, 5] rfl (by decide)).backL hpost
        clear hpost
        have hS : Ms X (fps []) w0 [.blk b6520 27 (Col.cells t2520), .blk b7520 27 (Col.cells t5520), .vec As0_1 cs0_2 2 1 ms0_3 (ints ((ls0_4.set (Int.toNat 0) q_).set q_.toNat 0)), .vec As0_5 cs0_6 2 1 ms0_7 (ints ((ls0_8.set (Int.toNat 0) p).set p.toNat 0)), .blk b1 27 (Col.cells x)] [] w := (hm.pick [2, 3, 4, 5, 6] rfl (by decide)).pickφ [] rfl
        refine wpList_nil (qn ⟨hS, ?_⟩)
        refine wph_take (i := 6) rfl (by kernel_rfl) (by kernel_rfl) (by kernel_rfl) (fun _ _ _ h => h) rfl ht hS (wanted_plain rfl) (fun w hm => ev_build (vs := (Col.cells t2520 ++ (Col.cells t5520 ++ ([.slice A14521 m14523 c14522, .slice A16521 m16523 c16522, .int .i64 1, .int .i64 0, .slice none 0 0])))) ht rfl bi_45 rfl (fill_two _ _ _ _ _ _ _ _ _ _ rfl rfl rfl)) ?_
        intro a ht
        refine wph_one (i := 7) (by kernel_rfl) (wph_step rfl ?_)
        refine wpl_box rfl rfl ht hm rfl rfl rfl ?_
        intro b18520 a ht w hm
        have hS : Ms X (fps []) w0 [.blk b6520 27 (Col.cells t2520), .blk b7520 27 (Col.cells t5520), .vec As0_1 cs0_2 2 1 ms0_3 (ints ((ls0_4.set (Int.toNat 0) q_).set q_.toNat 0)), .vec As0_5 cs0_6 2 1 ms0_7 (ints ((ls0_8.set (Int.toNat 0) p).set p.toNat 0)), .blk b1 27 (Col.cells x)] [] w := (hm.pick [3, 4, 5, 6, 7] rfl (by decide)).pickφ [] rfl
        refine wpList_nil (qn ⟨hS, ?_⟩)
        refine wph_take (i := 8) rfl (by kernel_rfl) (by kernel_rfl) (by kernel_rfl) (fun _ _ _ h => h) rfl ht hS (wanted_plain rfl) (fun w hm => ev_assign ht rfl rfl) ?_
        intro a ht
        refine wph_done (by kernel_rfl) ?_
        replace hm := hm.pick (own' := [.vec A14521 c14522 2 1 m14523 (ints t14520), .vec A16521 c16522 2 1 m16523 (ints t16520), .blk b18520 45 (Col.cells t2520 ++ (Col.cells t5520 ++ ([.slice A14521 m14523 c14522, .slice A16521 m16523 c16522, .int .i64 1, .int .i64 0, .slice none 0 0]))), .blk b6520 27 (Col.cells t2520), .blk b7520 27 (Col.cells t5520), .vec As0_1 cs0_2 2 1 ms0_3 (ints ((ls0_4.set (Int.toNat 0) q_).set q_.toNat 0)), .vec As0_5 cs0_6 2 1 ms0_7 (ints ((ls0_8.set (Int.toNat 0) p).set p.toNat 0)), .blk b1 27 (Col.cells x)]) [2, 1, 0, 3, 4, 5, 6, 7] rfl (by decide)
        refine then_normal ?_
        refine wp_seq ?_
        refine wp_seq ?_
        refine wph_begin (fun w => Ms X (fps []) w0 [.vec A14521 c14522 2 1 m14523 (ints t14520), .vec A16521 c16522 2 1 m16523 (ints t16520), .blk b18520 45 (Col.cells t2520 ++ (Col.cells t5520 ++ ([.slice A14521 m14523 c14522, .slice A16521 m16523 c16522, .int .i64 1, .int .i64 0, .slice none 0 0]))), .blk b6520 27 (Col.cells t2520), .blk b7520 27 (Col.cells t5520), .vec As0_1 cs0_2 2 1 ms0_3 (ints ((ls0_4.set (Int.toNat 0) q_).set q_.toNat 0)), .vec As0_5 cs0_6 2 1 ms0_7 (ints ((ls0_8.set (Int.toNat 0) p).set p.toNat 0)), .blk b1 27 (Col.cells x)] [] w) mixed ?_
        replace hm := hm.drew
        have hS : Ms X (fps []) w0 [.vec A14521 c14522 2 1 m14523 (ints t14520), .vec A16521 c16522 2 1 m16523 (ints t16520), .blk b18520 45 (Col.cells t2520 ++ (Col.cells t5520 ++ ([.slice A14521 m14523 c14522, .slice A16521 m16523 c16522, .int .i64 1, .int .i64 0, .slice none 0 0]))), .blk b6520 27 (Col.cells t2520), .blk b7520 27 (Col.cells t5520), .vec As0_1 cs0_2 2 1 ms0_3 (ints ((ls0_4.set (Int.toNat 0) q_).set q_.toNat 0)), .vec As0_5 cs0_6 2 1 ms0_7 (ints ((ls0_8.set (Int.toNat 0) p).set p.toNat 0)), .blk b1 27 (Col.cells x)] [] w.drew := (hm.pick [0, 1, 2, 3, 4, 5, 6, 7] rfl (by decide)).pickφ [] rfl
        generalize w.drew = w at hm hS ⊢
        refine wph_take (i := 0) rfl (by kernel_rfl) (by kernel_rfl) (by kernel_rfl) (fun _ _ _ h => h) rfl ht hS (wanted_plain rfl) (fun w hm => ev_move ht rfl rfl) ?_
        intro a ht
        refine wph_take (i := 1) rfl (by kernel_rfl) (by kernel_rfl) (by kernel_rfl) (fun _ _ _ h => h) rfl ht hS (wanted_plain rfl) (fun w hm => ev_nilCheck ht rfl rfl) ?_
        intro a ht
        refine wph_take (i := 2) rfl (by kernel_rfl) (by kernel_rfl) (by kernel_rfl) (fun _ _ _ h => h) rfl ht hS (wanted_plain rfl) (fun w hm => ev_fieldAddr ht rfl rfl fo_45_2) ?_
        intro a ht
        refine wph_take (i := 3) rfl (by kernel_rfl) (by kernel_rfl) (by kernel_rfl) (fun _ _ _ h => h) rfl ht hS (wanted_plain rfl) (fun w hm => ev_load ht rfl rfl sc_43 (hm.blk_cell 2 rfl ((seg_col _ _ 138).trans ((seg_col _ _ 0).trans rfl)))) ?_
        intro a ht
        obtain ⟨t21020, et21020, H⟩ := bind_get H
        refine wph_take (i := 4) rfl (by kernel_rfl) (by kernel_rfl) (by kernel_rfl) (fun _ _ _ h => h) rfl ht hS (wanted_plain rfl) (fun w hm => ev_index_ints ht rfl rfl rfl so_43 (hm.vec_row 0 rfl) et21020) ?_
        intro a ht
        refine wph_take (i := 5) rfl (by kernel_rfl) (by kernel_rfl) (by kernel_rfl) (fun _ _ _ h => h) rfl ht hS (wanted_plain rfl) (fun w hm => ev_load ht rfl rfl sc_2 (RowAt.cell (hm.vec_row 0 rfl) (ints_get et21020) rfl)) ?_
        intro a ht
        refine wph_take (i := 6) rfl (by kernel_rfl) (by kernel_rfl) (by kernel_rfl) (fun _ _ _ h => h) rfl ht hS (wanted_plain rfl) (fun w hm => ev_move ht rfl rfl) ?_
        intro a ht
        refine wph_take (i := 7) rfl (by kernel_rfl) (by kernel_rfl) (by kernel_rfl) (fun _ _ _ h => h) rfl ht hS (wanted_plain rfl) (fun w hm => ev_nilCheck ht rfl rfl) ?_
        intro a ht
        refine wph_take (i := 8) rfl (by kernel_rfl) (by kernel_rfl) (by kernel_rfl) (fun _ _ _ h => h) rfl ht hS (wanted_plain rfl) (fun w hm => ev_fieldAddr ht rfl rfl fo_45_3) ?_
        intro a ht
        refine wph_take (i := 9) rfl (by kernel_rfl) (by kernel_rfl) (by kernel_rfl) (fun _ _ _ h => h) rfl ht hS (wanted_plain rfl) (fun w hm => ev_load ht rfl rfl sc_43 (hm.blk_cell 2 rfl ((seg_col _ _ 139).trans ((seg_col _ _ 1).trans rfl)))) ?_
        intro a ht
        obtain ⟨t21021, et21021, H⟩ := bind_get H
        refine wph_take (i := 10) rfl (by kernel_rfl) (by kernel_rfl) (by kernel_rfl) (fun _ _ _ h => h) rfl ht hS (wanted_plain rfl) (fun w hm => ev_index_ints ht rfl rfl rfl so_43 (hm.vec_row 1 rfl) et21021) ?_
        intro a ht
        refine wph_take (i := 11) rfl (by kernel_rfl) (by kernel_rfl) (by kernel_rfl) (fun _ _ _ h => h) rfl ht hS (wanted_plain rfl) (fun w hm => ev_load ht rfl rfl sc_2 (RowAt.cell (hm.vec_row 1 rfl) (ints_get et21021) rfl)) ?_
        intro a ht
        refine wph_take (i := 12) rfl (by kernel_rfl) (by kernel_rfl) (by kernel_rfl) (fun _ _ _ h => h) rfl ht hS (wanted_plain rfl) (fun w hm => ev_cmp ht rfl rfl rfl rfl) ?_
        intro a ht
        refine wph_done (by kernel_rfl) ?_
        refine then_normal ?_
        by_cases h21022 : t21020 = t21021
        · replace H := ite_yes h21022 H
          refine wpc_yes ht rfl (decide_eq_true h21022) ?_
          refine wpr ?_
          refine wpl rfl rfl ht (ev_move ht rfl rfl) ?_
          intro a ht
          refine wpl_build_ints (l := [0]) rfl rfl ht hm rfl und_43 zo_2 sz1_2 (by decide) rfl rfl rfl ?_
          intro A21023 a ht w hm
          replace hm : Ms _ _ _ _ (IntsAt A14521 c14522 m14523 t14520 :: _) w := hm.shutVec 1 rfl
          replace hm : Ms _ _ _ _ (IntsAt A16521 c16522 m16523 t16520 :: _) w := hm.shutVec 1 rfl
          replace hm : Ms _ _ _ _ (IntsAt A21023 1 1 ([0]) :: _) w := hm.shutVec 0 rfl
          replace hm : Ms _ _ _ _ (IntsAt none 0 0 ([] : List Int) :: _) w := hm.nilRow none 1
          obtain ⟨t21025, et21025, H⟩ := bind_get H
          have hcall := spec_l06Go.calls q4 _ _ b18520 A14521 c14522 m14523 A16521 c16522 m16523 none 0 0 A21023 1 1 t2520 t5520 t14520 t16520 1 0 ([]) ([0]) 1 _ ((hm.pick (own' := [.blk b18520 45 (Col.cells t2520 ++ (Col.cells t5520 ++ ([.slice A14521 m14523 c14522, .slice A16521 m16523 c16522, .int .i64 1, .int .i64 0, .slice none 0 0])))] ++ [.blk b6520 27 (Col.cells t2520), .blk b7520 27 (Col.cells t5520), .vec As0_1 cs0_2 2 1 ms0_3 (ints ((ls0_4.set (Int.toNat 0) q_).set q_.toNat 0)), .vec As0_5 cs0_6 2 1 ms0_7 (ints ((ls0_8.set (Int.toNat 0) p).set p.toNat 0)), .blk b1 27 (Col.cells x)]) [0, 1, 2, 3, 4, 5] rfl (by decide)).give (passed := [.blk b18520 45 (Col.cells t2520 ++ (Col.cells t5520 ++ ([.slice A14521 m14523 c14522, .slice A16521 m16523 c16522, .int .i64 1, .int .i64 0, .slice none 0 0])))]) (rest := [.blk b6520 27 (Col.cells t2520), .blk b7520 27 (Col.cells t5520), .vec As0_1 cs0_2 2 1 ms0_3 (ints ((ls0_4.set (Int.toNat 0) q_).set q_.toNat 0)), .vec As0_5 cs0_6 2 1 ms0_7 (ints ((ls0_8.set (Int.toNat 0) p).set p.toNat 0)), .blk b1 27 (Col.cells x)]) (φp := [IntsAt A14521 c14522 m14523 t14520, IntsAt A16521 c16522 m16523 t16520, IntsAt none 0 0 ([] : List Int), IntsAt A21023 1 1 ([0])]) [3, 2, 0, 1] rfl) et21025
          refine wpl_call _ rfl rfl ht rfl rfl rfl rfl can_45 hcall ?_
          clear hcall
          rintro _ w ⟨A21026, c21027, m21028, A21029, c21030, m21031, A21032, c21033, m21034, rfl, hpost⟩ a ht
          replace hm := (hm.pick (own' := [.blk b18520 45 (Col.cells t2520 ++ (Col.cells t5520 ++ ([.slice A14521 m14523 c14522, .slice A16521 m16523 c16522, .int .i64 1, .int .i64 0, .slice none 0 0])))] ++ [.blk b6520 27 (Col.cells t2520), .blk b7520 27 (Col.cells t5520), .vec As0_1 cs0_2 2 1 ms0_3 (ints ((ls0_4.set (Int.toNat 0) q_).set q_.toNat 0)), .vec As0_5 cs0_6 2 1 ms0_7 (ints ((ls0_8.set (Int.toNat 0) p).set p.toNat 0)), .blk b1 27 (Col.cells x)]) [0, 1, 2, 3, 4, 5] rfl (by decide)).back hpost
          clear hpost
          refine wpList_nil ?_
          refine then_normal ?_
          refine wp_seq ?_
          refine wpr ?_
          refine wpl rfl rfl ht (ev_move ht rfl rfl) ?_
          intro a ht
          refine wpl rfl rfl ht (ev_nilCheck ht rfl rfl) ?_
          intro a ht
          refine wpl rfl rfl ht (ev_fieldAddr ht rfl rfl fo_45_5) ?_
          intro a ht
          refine wpl rfl rfl ht (ev_load ht rfl rfl sc_2 (hm.blk_cell 0 rfl ((seg_col _ _ 141).trans ((seg_col _ _ 3).trans rfl)))) ?_
          intro a ht
          refine wpl rfl rfl ht (ev_cmp ht rfl rfl rfl rfl) ?_
          intro a ht
          refine wpl rfl rfl ht (ev_assign ht rfl rfl) ?_
          intro a ht
          refine wpList_nil ?_
          refine then_normal ?_
          refine wp_ret ?_
          have hres := ht.res (P := Try.prog) (w := w) (rs := [.tmp 6]) (vs := [.bool (decide (t21025.2.2.2.2.2.1 > 0))]) (.tmp rfl .nil)
          obtain rfl := Option.some.inj H
          exact leave ht rfl hres ⟨rfl, ((hm.pick [] rfl (by decide)).pickφ [] rfl).post fun _ h => h⟩
        · replace H := ite_no h21022 H
          refine wpc_no ht rfl (decide_eq_false h21022) ?_
          refine wp_skip ?_
          refine then_normal ?_
          refine wp_seq ?_
          refine wpr ?_
          refine wpl rfl rfl ht (ev_move ht rfl rfl) ?_
          intro a ht
          refine wpl rfl rfl ht (ev_nilCheck ht rfl rfl) ?_
          intro a ht
          refine wpl rfl rfl ht (ev_fieldAddr ht rfl rfl fo_45_5) ?_
          intro a ht
          refine wpl rfl rfl ht (ev_load ht rfl rfl sc_2 (hm.blk_cell 2 rfl ((seg_col _ _ 141).trans ((seg_col _ _ 3).trans rfl)))) ?_
          intro a ht
          refine wpl rfl rfl ht (ev_cmp (r := false) ht rfl rfl rfl (by decide)) ?_
          intro a ht
          refine wpl rfl rfl ht (ev_assign ht rfl rfl) ?_
          intro a ht
          refine wpList_nil ?_
          refine then_normal ?_
          refine wp_ret ?_
          have hres := ht.res (P := Try.prog) (w := w) (rs := [.tmp 6]) (vs := [.bool false]) (.tmp rfl .nil)
          obtain rfl := Option.some.inj H
          exact leave ht rfl hres ⟨rfl, ((hm.pick [] rfl (by decide)).pickφ [] rfl).post fun _ h => h⟩
    · refine wph_step rfl ?_
      refine wpl_alloc rfl rfl ht hm rfl zo_27 ?_
      intro b7520 a ht w hm
      have hS : Ms X (fps []) w0 [.vec As0_1 cs0_2 2 1 ms0_3 (ints ((ls0_4.set (Int.toNat 0) q_).set q_.toNat 0)), .vec As0_5 cs0_6 2 1 ms0_7 (ints ((ls0_8.set (Int.toNat 0) p).set p.toNat 0)), .blk b1 27 (Col.cells x)] [] w := (hm.pick [1, 2, 3] rfl (by decide)).pickφ [] rfl
      refine wpList_nil (qn ⟨hS, ?_⟩)
      refine wph_two (i := 2) (j := 6) (by kernel_rfl) ?_ ?_ 
      · refine wph_step rfl ?_
        obtain ⟨t2520, et2520, H⟩ := bind_get H
        have hcall := spec_l01Renamed.calls q4 _ _ As0_5 cs0_6 ms0_7 x ((ls0_8.set (Int.toNat 0) p).set p.toNat 0) _ ((fun (hq : Ms _ _ _ ([] ++ [.blk b7520 27 (Col.cells Col.zero), .vec As0_1 cs0_2 2 1 ms0_3 (ints ((ls0_4.set (Int.toNat 0) q_).set q_.toNat 0)), .vec As0_5 cs0_6 2 1 ms0_7 (ints ((ls0_8.set (Int.toNat 0) p).set p.toNat 0)), .blk b1 27 (Col.cells x)]) _ _) => hq.lend (φp := [IntsAt As0_5 cs0_6 ms0_7 ((ls0_8.set (Int.toNat 0) p).set p.toNat 0)]) (allRO_cons (hq.lendVec 2 rfl) (allRO_nil))) (hm.pick (own' := [] ++ [.blk b7520 27 (Col.cells Col.zero), .vec As0_1 cs0_2 2 1 ms0_3 (ints ((ls0_4.set (Int.toNat 0) q_).set q_.toNat 0)), .vec As0_5 cs0_6 2 1 ms0_7 (ints ((ls0_8.set (Int.toNat 0) p).set p.toNat 0)), .blk b1 27 (Col.cells x)]) [0, 1, 2, 3] rfl (by decide))) et2520
        refine wpl_call _ rfl rfl ht rfl rfl rfl rfl can_28 hcall ?_
        clear hcall
        rintro _ w ⟨rfl, hpost⟩ a ht
        replace hm := (hm.pick (own' := [] ++ [.blk b7520 27 (Col.cells Col.zero), .vec As0_1 cs0_2 2 1 ms0_3 (ints ((ls0_4.set (Int.toNat 0) q_).set q_.toNat 0)), .vec As0_5 cs0_6 2 1 ms0_7 (ints ((ls0_8.set (Int.toNat 0) p).set p.toNat 0)), .blk b1 27 (Col.cells x)]) [0, 1, 2, 3] rfl (by decide)).backL hpost
        clear hpost
        have hS : Ms X (fps []) w0 [.vec As0_1 cs0_2 2 1 ms0_3 (ints ((ls0_4.set (Int.toNat 0) q_).set q_.toNat 0)), .vec As0_5 cs0_6 2 1 ms0_7 (ints ((ls0_8.set (Int.toNat 0) p).set p.toNat 0)), .blk b1 27 (Col.cells x)] [] w := (hm.pick [1, 2, 3] rfl (by decide)).pickφ [] rfl
        refine wpList_nil (qn ⟨hS, ?_⟩)
        refine wph_two (i := 5) (j := 6) (by kernel_rfl) ?_ ?_ 
        · refine wph_step rfl ?_
          obtain ⟨t5520, et5520, H⟩ := bind_get H
          have hcall := spec_l01Renamed.calls q4 _ _ As0_1 cs0_2 ms0_3 x ((ls0_4.set (Int.toNat 0) q_).set q_.toNat 0) _ ((fun (hq : Ms _ _ _ ([] ++ [.blk b7520 27 (Col.cells Col.zero), .vec As0_1 cs0_2 2 1 ms0_3 (ints ((ls0_4.set (Int.toNat 0) q_).set q_.toNat 0)), .vec As0_5 cs0_6 2 1 ms0_7 (ints ((ls0_8.set (Int.toNat 0) p).set p.toNat 0)), .blk b1 27 (Col.cells x)]) _ _) => hq.lend (φp := [IntsAt As0_1 cs0_2 ms0_3 ((ls0_4.set (Int.toNat 0) q_).set q_.toNat 0)]) (allRO_cons (hq.lendVec 1 rfl) (allRO_nil))) (hm.pick (own' := [] ++ [.blk b7520 27 (Col.cells Col.zero), .vec As0_1 cs0_2 2 1 ms0_3 (ints ((ls0_4.set (Int.toNat 0) q_).set q_.toNat 0)), .vec As0_5 cs0_6 2 1 ms0_7 (ints ((ls0_8.set (Int.toNat 0) p).set p.toNat 0)), .blk b1 27 (Col.cells x)]) [0, 1, 2, 3] rfl (by decide))) et5520
          refine wpl_call _ rfl rfl ht rfl rfl rfl rfl can_28 hcall ?_
          clear hcall
          rintro _ w ⟨rfl, hpost⟩ a ht
          replace hm := (hm.pick (own' := [] ++ [.blk b7520 27 (Col.cells Col.zero), .vec As0_1 cs0_2 2 1 ms0_3 (ints ((ls0_4.set (Int.toNat 0) q_).set q_.toNat 0)), .vec As0_5 cs0_6 2 1 ms0_7 (ints ((ls0_8.set (Int.toNat 0) p).set p.toNat 0)), .blk b1 27 (Col.cells x)]) [0, 1, 2, 3] rfl (by decide)).backL hpost
          clear hpost
          have hS : Ms X (fps []) w0 [.vec As0_1 cs0_2 2 1 ms0_3 (ints ((ls0_4.set (Int.toNat 0) q_).set q_.toNat 0)), .vec As0_5 cs0_6 2 1 ms0_7 (ints ((ls0_8.set (Int.toNat 0) p).set p.toNat 0)), .blk b1 27 (Col.cells x)] [] w := (hm.pick [1, 2, 3] rfl (by decide)).pickφ [] rfl
          refine wpList_nil (qn ⟨hS, ?_⟩)
          refine wph_one (i := 6) (by kernel_rfl) (wph_step rfl ?_)
          refine wpl_alloc rfl rfl ht hm rfl zo_27 ?_
          intro b6520 a ht w hm
          have hS : Ms X (fps []) w0 [.vec As0_1 cs0_2 2 1 ms0_3 (ints ((ls0_4.set (Int.toNat 0) q_).set q_.toNat 0)), .vec As0_5 cs0_6 2 1 ms0_7 (ints ((ls0_8.set (Int.toNat 0) p).set p.toNat 0)), .blk b1 27 (Col.cells x)] [] w := (hm.pick [2, 3, 4] rfl (by decide)).pickφ [] rfl
          refine wpList_nil (qn ⟨hS, ?_⟩)
          refine wph_one (i := 8) (by kernel_rfl) (wph_step rfl ?_)
          refine wpl_store_whole 0 rfl rfl ht hm rfl rfl rfl (szn_27.trans (by first | rw [Col.length_cells] | rfl)) rfl (by simp only [Col.length_cells]) (Col.cells_one _) ?_
          intro a ht w hm
          have hS : Ms X (fps []) w0 [.vec As0_1 cs0_2 2 1 ms0_3 (ints ((ls0_4.set (Int.toNat 0) q_).set q_.toNat 0)), .vec As0_5 cs0_6 2 1 ms0_7 (ints ((ls0_8.set (Int.toNat 0) p).set p.toNat 0)), .blk b1 27 (Col.cells x)] [] w := (hm.pick [2, 3, 4] rfl (by decide)).pickφ [] rfl
          refine wpList_nil (qn ⟨hS, ?_⟩)
          refine wph_one (i := 9) (by kernel_rfl) (wph_step rfl ?_)
          refine wpl_store_whole 1 rfl rfl ht hm rfl rfl rfl (szn_27.trans (by first | rw [Col.length_cells] | rfl)) rfl (by simp only [Col.length_cells]) (Col.cells_one _) ?_
          intro a ht w hm
          have hS : Ms X (fps []) w0 [.vec As0_1 cs0_2 2 1 ms0_3 (ints ((ls0_4.set (Int.toNat 0) q_).set q_.toNat 0)), .vec As0_5 cs0_6 2 1 ms0_7 (ints ((ls0_8.set (Int.toNat 0) p).set p.toNat 0)), .blk b1 27 (Col.cells x)] [] w := (hm.pick [2, 3, 4] rfl (by decide)).pickφ [] rfl
          refine wpList_nil (qn ⟨hS, ?_⟩)
          refine wph_done (by kernel_rfl) ?_
          refine then_normal ?_
          refine wp_seq ?_
          refine wph_begin (fun w => Ms X (fps []) w0 [.blk b6520 27 (Col.cells t2520), .blk b7520 27 (Col.cells t5520), .vec As0_1 cs0_2 2 1 ms0_3 (ints ((ls0_4.set (Int.toNat 0) q_).set q_.toNat 0)), .vec As0_5 cs0_6 2 1 ms0_7 (ints ((ls0_8.set (Int.toNat 0) p).set p.toNat 0)), .blk b1 27 (Col.cells x)] [] w) mixed ?_
          replace hm := hm.drew
          have hS : Ms X (fps []) w0 [.blk b6520 27 (Col.cells t2520), .blk b7520 27 (Col.cells t5520), .vec As0_1 cs0_2 2 1 ms0_3 (ints ((ls0_4.set (Int.toNat 0) q_).set q_.toNat 0)), .vec As0_5 cs0_6 2 1 ms0_7 (ints ((ls0_8.set (Int.toNat 0) p).set p.toNat 0)), .blk b1 27 (Col.cells x)] [] w.drew := (hm.pick [0, 1, 2, 3, 4] rfl (by decide)).pickφ [] rfl
          generalize w.drew = w at hm hS ⊢
          refine wph_take (i := 0) rfl (by kernel_rfl) (by kernel_rfl) (by kernel_rfl) (fun _ _ _ h => h) rfl ht hS (wanted_plain rfl) (fun w hm => ev_load_agg ht rfl rfl (ag_27.trans (by first | rw [Col.length_cells] | rfl)) (hm.blk_all 0 rfl)) ?_
          intro a ht
          refine wph_take (i := 1) rfl (by kernel_rfl) (by kernel_rfl) (by kernel_rfl) (fun _ _ _ h => h) rfl ht hS (wanted_plain rfl) (fun w hm => ev_load_agg ht rfl rfl (ag_27.trans (by first | rw [Col.length_cells] | rfl)) (hm.blk_all 1 rfl)) ?_
          intro a ht
          refine wph_take (i := 2) rfl (by kernel_rfl) (by kernel_rfl) (by kernel_rfl) (fun _ _ _ h => h) rfl ht hS (wanted_plain rfl) (fun w hm => ev_load_agg ht rfl rfl (ag_27.trans (by first | rw [Col.length_cells] | rfl)) (hm.blk_all 0 rfl)) ?_
          intro a ht
          refine wph_take (i := 4) rfl (by kernel_rfl) (by kernel_rfl) (by kernel_rfl) (fun _ _ _ h => h) rfl ht hS (wanted_plain rfl) (fun w hm => ev_load_agg ht rfl rfl (ag_27.trans (by first | rw [Col.length_cells] | rfl)) (hm.blk_all 1 rfl)) ?_
          intro a ht
          refine wph_one (i := 3) (by kernel_rfl) (wph_step rfl ?_)
          obtain ⟨t14520, et14520, H⟩ := bind_get H
          have hcall := spec_l06Types.calls q4 _ _ t2520 _ ((fun (hq : Ms _ _ _ ([] ++ [.blk b6520 27 (Col.cells t2520), .blk b7520 27 (Col.cells t5520), .vec As0_1 cs0_2 2 1 ms0_3 (ints ((ls0_4.set (Int.toNat 0) q_).set q_.toNat 0)), .vec As0_5 cs0_6 2 1 ms0_7 (ints ((ls0_8.set (Int.toNat 0) p).set p.toNat 0)), .blk b1 27 (Col.cells x)]) _ _) => hq.lend (φp := []) (allRO_nil)) (hm.pick (own' := [] ++ [.blk b6520 27 (Col.cells t2520), .blk b7520 27 (Col.cells t5520), .vec As0_1 cs0_2 2 1 ms0_3 (ints ((ls0_4.set (Int.toNat 0) q_).set q_.toNat 0)), .vec As0_5 cs0_6 2 1 ms0_7 (ints ((ls0_8.set (Int.toNat 0) p).set p.toNat 0)), .blk b1 27 (Col.cells x)]) [0, 1, 2, 3, 4] rfl (by decide))) et14520
          refine wpl_call _ rfl rfl ht rfl rfl rfl rfl can_44 hcall ?_
          clear hcall
          rintro _ w ⟨A14521, c14522, m14523, rfl, hpost⟩ a ht
          replace hm := (hm.pick (own' := [] ++ [.blk b6520 27 (Col.cells t2520), .blk b7520 27 (Col.cells t5520), .vec As0_1 cs0_2 2 1 ms0_3 (ints ((ls0_4.set (Int.toNat 0) q_).set q_.toNat 0)), .vec As0_5 cs0_6 2 1 ms0_7 (ints ((ls0_8.set (Int.toNat 0) p).set p.toNat 0)), .blk b1 27 (Col.cells x)]) [0, 1, 2, 3, 4] rfl (by decide)).backL hpost
          clear hpost
          have hS : Ms X (fps []) w0 [.blk b6520 27 (Col.cells t2520), .blk b7520 27 (Col.cells t5520), .vec As0_1 cs0_2 2 1 ms0_3 (ints ((ls0_4.set (Int.toNat 0) q_).set q_.toNat 0)), .vec As0_5 cs0_6 2 1 ms0_7 (ints ((ls0_8.set (Int.toNat 0) p).set p.toNat 0)), .blk b1 27 (Col.cells x)] [] w := (hm.pick [1, 2, 3, 4, 5] rfl (by decide)).pickφ [] rfl
          refine wpList_nil (qn ⟨hS, ?_⟩)
          refine wph_one (i := 5) (by kernel_rfl) (wph_step rfl ?_)
          obtain ⟨t16520, et16520, H⟩ := bind_get H
          have hcall := spec_l06Types.calls q4 _ _ t5520 _ ((fun (hq : Ms _ _ _ ([] ++ [.vec A14521 c14522 2 1 m14523 (ints t14520), .blk b6520 27 (Col.cells t2520), .blk b7520 27 (Col.cells t5520), .vec As0_1 cs0_2 2 1 ms0_3 (ints ((ls0_4.set (Int.toNat 0) q_).set q_.toNat 0)), .vec As0_5 cs0_6 2 1 ms0_7 (ints ((ls0_8.set (Int.toNat 0) p).set p.toNat 0)), .blk b1 27 (Col.cells x)]) _ _) => hq.lend (φp := []) (allRO_nil)) (hm.pick (own' := [] ++ [.vec A14521 c14522 2 1 m14523 (ints t14520), .blk b6520 27 (Col.cells t2520), .blk b7520 27 (Col.cells t5520), .vec As0_1 cs0_2 2 1 ms0_3 (ints ((ls0_4.set (Int.toNat 0) q_).set q_.toNat 0)), .vec As0_5 cs0_6 2 1 ms0_7 (ints ((ls0_8.set (Int.toNat 0) p).set p.toNat 0)), .blk b1 27 (Col.cells x)]) [0, 1, 2, 3, 4, 5] rfl (by decide))) et16520
          refine wpl_call _ rfl rfl ht rfl rfl rfl rfl can_44 hcall ?_
          clear hcall
          rintro _ w ⟨A16521, c16522, m16523, rfl, hpost⟩ a ht
          replace hm := (hm.pick (own' := [] ++ [.vec A14521 c14522 2 1 m14523 (ints t14520), .blk b6520 27 (Col.cells t2520), .blk b7520 27 (Col.cells t5520), .vec As0_1 cs0_2 2 1 ms0_3 (ints ((ls0_4.set (Int.toNat 0) q_).set q_.toNat 0)), .vec As0_5 cs0_6 2 1 ms0_7 (ints ((ls0_8.set (Int.toNat 0) p).set p.toNat 0)), .blk b1 27 (Col.cells x)]) [0, 1, 2, 3, 4, 5] rfl (by decide)).backL hpost
          clear hpost
          have hS : Ms X (fps []) w0 [.blk b6520 27 (Col.cells t2520), .blk b7520 27 (Col.cells t5520), .vec As0_1 cs0_2 2 1 ms0_3 (ints ((ls0_4.set (Int.toNat 0) q_).set q_.toNat 0)), .vec As0_5 cs0_6 2 1 ms0_7 (ints ((ls0_8.set (Int.toNat 0) p).set p.toNat 0)), .blk b1 27 (Col.cells x)] [] w := (hm.pick [2, 3, 4, 5, 6] rfl (by decide)).pickφ [] rfl
          refine wpList_nil (qn ⟨hS, ?_⟩)
          refine wph_take (i := 6) rfl (by kernel_rfl) (by kernel_rfl) (by kernel_rfl) (fun _ _ _ h => h) rfl ht hS (wanted_plain rfl) (fun w hm => ev_build (vs := (Col.cells t2520 ++ (Col.cells t5520 ++ ([.slice A14521 m14523 c14522, .slice A16521 m16523 c16522, .int .i64 1, .int .i64 0, .slice none 0 0])))) ht rfl bi_45 rfl (fill_two _ _ _ _ _ _ _ _ _ _ rfl rfl rfl)) ?_
          intro a ht
          refine wph_one (i := 7) (by kernel_rfl) (wph_step rfl ?_)
          refine wpl_box rfl rfl ht hm rfl rfl rfl ?_
          intro b18520 a ht w hm
          have hS : Ms X (fps []) w0 [.blk b6520 27 (Col.cells t2520), .blk b7520 27 (Col.cells t5520), .vec As0_1 cs0_2 2 1 ms0_3 (ints ((ls0_4.set (Int.toNat 0) q_).set q_.toNat 0)), .vec As0_5 cs0_6 2 1 ms0_7 (ints ((ls0_8.set (Int.toNat 0) p).set p.toNat 0)), .blk b1 27 (Col.cells x)] [] w := (hm.pick [3, 4, 5, 6, 7] rfl (by decide)).pickφ [] rfl
          refine wpList_nil (qn ⟨hS, ?_⟩)
          refine wph_take (i := 8) rfl (by kernel_rfl) (by kernel_rfl) (by kernel_rfl) (fun _ _ _ h => h) rfl ht hS (wanted_plain rfl) (fun w hm => ev_assign ht rfl rfl) ?_
          intro a ht
          refine wph_done (by kernel_rfl) ?_
          replace hm := hm.pick (own' := [.vec A14521 c14522 2 1 m14523 (ints t14520), .vec A16521 c16522 2 1 m16523 (ints t16520), .blk b18520 45 (Col.cells t2520 ++ (Col.cells t5520 ++ ([.slice A14521 m14523 c14522, .slice A16521 m16523 c16522, .int .i64 1, .int .i64 0, .slice none 0 0]))), .blk b6520 27 (Col.cells t2520), .blk b7520 27 (Col.cells t5520), .vec As0_1 cs0_2 2 1 ms0_3 (ints ((ls0_4.set (Int.toNat 0) q_).set q_.toNat 0)), .vec As0_5 cs0_6 2 1 ms0_7 (ints ((ls0_8.set (Int.toNat 0) p).set p.toNat 0)), .blk b1 27 (Col.cells x)]) [2, 1, 0, 3, 4, 5, 6, 7] rfl (by decide)
          refine then_normal ?_
          refine wp_seq ?_
          refine wp_seq ?_
          refine wph_begin (fun w => Ms X (fps []) w0 [.vec A14521 c14522 2 1 m14523 (ints t14520), .vec A16521 c16522 2 1 m16523 (ints t16520), .blk b18520 45 (Col.cells t2520 ++ (Col.cells t5520 ++ ([.slice A14521 m14523 c14522, .slice A16521 m16523 c16522, .int .i64 1, .int .i64 0, .slice none 0 0]))), .blk b6520 27 (Col.cells t2520), .blk b7520 27 (Col.cells t5520), .vec As0_1 cs0_2 2 1 ms0_3 (ints ((ls0_4.set (Int.toNat 0) q_).set q_.toNat 0)), .vec As0_5 cs0_6 2 1 ms0_7 (ints ((ls0_8.set (Int.toNat 0) p).set p.toNat 0)), .blk b1 27 (Col.cells x)] [] w) mixed ?_
          replace hm := hm.drew
          have hS : Ms X (fps []) w0 [.vec A14521 c14522 2 1 m14523 (ints t14520), .vec A16521 c16522 2 1 m16523 (ints t16520), .blk b18520 45 (Col.cells t2520 ++ (Col.cells t5520 ++ ([.slice A14521 m14523 c14522, .slice A16521 m16523 c16522, .int .i64 1, .int .i64 0, .slice none 0 0]))), .blk b6520 27 (Col.cells t2520), .blk b7520 27 (Col.cells t5520), .vec As0_1 cs0_2 2 1 ms0_3 (ints ((ls0_4.set (Int.toNat 0) q_).set q_.toNat 0)), .vec As0_5 cs0_6 2 1 ms0_7 (ints ((ls0_8.set (Int.toNat 0) p).set p.toNat 0)), .blk b1 27 (Col.cells x)] [] w.drew := (hm.pick [0, 1, 2, 3, 4, 5, 6, 7] rfl (by decide)).pickφ [] rfl
          generalize w.drew = w at hm hS ⊢
          refine wph_take (i := 0) rfl (by kernel_rfl) (by kernel_rfl) (by kernel_rfl) (fun _ _ _ h => h) rfl ht hS (wanted_plain rfl) (fun w hm => ev_move ht rfl rfl) ?_
          intro a ht
          refine wph_take (i := 1) rfl (by kernel_rfl) (by kernel_rfl) (by kernel_rfl) (fun _ _ _ h => h) rfl ht hS (wanted_plain rfl) (fun w hm => ev_nilCheck ht rfl rfl) ?_
          intro a ht
          refine wph_take (i := 2) rfl (by kernel_rfl) (by kernel_rfl) (by kernel_rfl) (fun _ _ _ h => h) rfl ht hS (wanted_plain rfl) (fun w hm => ev_fieldAddr ht rfl rfl fo_45_2) ?_
          intro a ht
          refine wph_take (i := 3) rfl (by kernel_rfl) (by kernel_rfl) (by kernel_rfl) (fun _ _ _ h => h) rfl ht hS (wanted_plain rfl) (fun w hm => ev_load ht rfl rfl sc_43 (hm.blk_cell 2 rfl ((seg_col _ _ 138).trans ((seg_col _ _ 0).trans rfl)))) ?_
          intro a ht
          obtain ⟨t21020, et21020, H⟩ := bind_get H
          refine wph_take (i := 4) rfl (by kernel_rfl) (by kernel_rfl) (by kernel_rfl) (fun _ _ _ h => h) rfl ht hS (wanted_plain rfl) (fun w hm => ev_index_ints ht rfl rfl rfl so_43 (hm.vec_row 0 rfl) et21020) ?_
          intro a ht
          refine wph_take (i := 5) rfl (by kernel_rfl) (by kernel_rfl) (by kernel_rfl) (fun _ _ _ h => h) rfl ht hS (wanted_plain rfl) (fun w hm => ev_load ht rfl rfl sc_2 (RowAt.cell (hm.vec_row 0 rfl) (ints_get et21020) rfl)) ?_
          intro a ht
          refine wph_take (i := 6) rfl (by kernel_rfl) (by kernel_rfl) (by kernel_rfl) (fun _ _ _ h => h) rfl ht hS (wanted_plain rfl) (fun w hm => ev_move ht rfl rfl) ?_
          intro a ht
          refine wph_take (i := 7) rfl (by kernel_rfl) (by kernel_rfl) (by kernel_rfl) (fun _ _ _ h => h) rfl ht hS (wanted_plain rfl) (fun w hm => ev_nilCheck ht rfl rfl) ?_
          intro a ht
          refine wph_take (i := 8) rfl (by kernel_rfl) (by kernel_rfl) (by kernel_rfl) (fun _ _ _ h => h) rfl ht hS (wanted_plain rfl) (fun w hm => ev_fieldAddr ht rfl rfl fo_45_3) ?_
          intro a ht
          refine wph_take (i := 9) rfl (by kernel_rfl) (by kernel_rfl) (by kernel_rfl) (fun _ _ _ h => h) rfl ht hS (wanted_plain rfl) (fun w hm => ev_load ht rfl rfl sc_43 (hm.blk_cell 2 rfl ((seg_col _ _ 139).trans ((seg_col _ _ 1).trans rfl)))) ?_
          intro a ht
          obtain ⟨t21021, et21021, H⟩ := bind_get H
          refine wph_take (i := 10) rfl (by kernel_rfl) (by kernel_rfl) (by kernel_rfl) (fun _ _ _ h => h) rfl ht hS (wanted_plain rfl) (fun w hm => ev_index_ints ht rfl rfl rfl so_43 (hm.vec_row 1 rfl) et21021) ?_
          intro a ht
          refine wph_take (i := 11) rfl (by kernel_rfl) (by kernel_rfl) (by kernel_rfl) (fun _ _ _ h => h) rfl ht hS (wanted_plain rfl) (fun w hm => ev_load ht rfl rfl sc_2 (RowAt.cell (hm.vec_row 1 rfl) (ints_get et21021) rfl)) ?_
          intro a ht
          refine wph_take (i := 12) rfl (by kernel_rfl) (by kernel_rfl) (by kernel_rfl) (fun _ _ _ h => h) rfl ht hS (wanted_plain rfl) (fun w hm => ev_cmp ht rfl rfl rfl rfl) ?_
          intro a ht
          refine wph_done (by kernel_rfl) ?_
          refine then_normal ?_
          by_cases h21022 : t21020 = t21021
          · replace H := ite_yes h21022 H
            refine wpc_yes ht rfl (decide_eq_true h21022) ?_
            refine wpr ?_
            refine wpl rfl rfl ht (ev_move ht rfl rfl) ?_
            intro a ht
            refine wpl_build_ints (l := [0]) rfl rfl ht hm rfl und_43 zo_2 sz1_2 (by decide) rfl rfl rfl ?_
            intro A21023 a ht w hm
            replace hm : Ms _ _ _ _ (IntsAt A14521 c14522 m14523 t14520 :: _) w := hm.shutVec 1 rfl
            replace hm : Ms _ _ _ _ (IntsAt A16521 c16522 m16523 t16520 :: _) w := hm.shutVec 1 rfl
            replace hm : Ms _ _ _ _ (IntsAt A21023 1 1 ([0]) :: _) w := hm.shutVec 0 rfl
            replace hm : Ms _ _ _ _ (IntsAt none 0 0 ([] : List Int) :: _) w := hm.nilRow none 1
            obtain ⟨t21025, et21025, H⟩ := bind_get H
            have hcall := spec_l06Go.calls q4 _ _ b18520 A14521 c14522 m14523 A16521 c16522 m16523 none 0 0 A21023 1 1 t2520 t5520 t14520 t16520 1 0 ([]) ([0]) 1 _ ((hm.pick (own' := [.blk b18520 45 (Col.cells t2520 ++ (Col.cells t5520 ++ ([.slice A14521 m14523 c14522, .slice A16521 m16523 c16522, .int .i64 1, .int .i64 0, .slice none 0 0])))] ++ [.blk b6520 27 (Col.cells t2520), .blk b7520 27 (Col.cells t5520), .vec As0_1 cs0_2 2 1 ms0_3 (ints ((ls0_4.set (Int.toNat 0) q_).set q_.toNat 0)), .vec As0_5 cs0_6 2 1 ms0_7 (ints ((ls0_8.set (Int.toNat 0) p).set p.toNat 0)), .blk b1 27 (Col.cells x)]) [0, 1, 2, 3, 4, 5] rfl (by decide)).give (passed := [.blk b18520 45 (Col.cells t2520 ++ (Col.cells t5520 ++ ([.slice A14521 m14523 c14522, .slice A16521 m16523 c16522, .int .i64 1, .int .i64 0, .slice none 0 0])))]) (rest := [.blk b6520 27 (Col.cells t2520), .blk b7520 27 (Col.cells t5520), .vec As0_1 cs0_2 2 1 ms0_3 (ints ((ls0_4.set (Int.toNat 0) q_).set q_.toNat 0)), .vec As0_5 cs0_6 2 1 ms0_7 (ints ((ls0_8.set (Int.toNat 0) p).set p.toNat 0)), .blk b1 27 (Col.cells x)]) (φp := [IntsAt A14521 c14522 m14523 t14520, IntsAt A16521 c16522 m16523 t16520, IntsAt none 0 0 ([] : List Int), IntsAt A21023 1 1 ([0])]) [3, 2, 0, 1] rfl) et21025
            refine wpl_call _ rfl rfl ht rfl rfl rfl rfl can_45 hcall ?_
            clear hcall
            rintro _ w ⟨A21026, c21027, m21028, A21029, c21030, m21031, A21032, c21033, m21034, rfl, hpost⟩ a ht
            replace hm := (hm.pick (own' := [.blk b18520 45 (Col.cells t2520 ++ (Col.cells t5520 ++ ([.slice A14521 m14523 c14522, .slice A16521 m16523 c16522, .int .i64 1, .int .i64 0, .slice none 0 0])))] ++ [.blk b6520 27 (Col.cells t2520), .blk b7520 27 (Col.cells t5520), .vec As0_1 cs0_2 2 1 ms0_3 (ints ((ls0_4.set (Int.toNat 0) q_).set q_.toNat 0)), .vec As0_5 cs0_6 2 1 ms0_7 (ints ((ls0_8.set (Int.toNat 0) p).set p.toNat 0)), .blk b1 27 (Col.cells x)]) [0, 1, 2, 3, 4, 5] rfl (by decide)).back hpost
            clear hpost
            refine wpList_nil ?_
            refine then_normal ?_
            refine wp_seq ?_
            refine wpr ?_
            refine wpl rfl rfl ht (ev_move ht rfl rfl) ?_
            intro a ht
            refine wpl rfl rfl ht (ev_nilCheck ht rfl rfl) ?_
            intro a ht
            refine wpl rfl rfl ht (ev_fieldAddr ht rfl rfl fo_45_5) ?_
            intro a ht
            refine wpl rfl rfl ht (ev_load ht rfl rfl sc_2 (hm.blk_cell 0 rfl ((seg_col _ _ 141).trans ((seg_col _ _ 3).trans rfl)))) ?_
            intro a ht
            refine wpl rfl rfl ht (ev_cmp ht rfl rfl rfl rfl) ?_
            intro a ht
            refine wpl rfl rfl ht (ev_assign ht rfl rfl) ?_
            intro a ht
            refine wpList_nil ?_
            refine then_normal ?_
            refine wp_ret ?_
            have hres := ht.res (P := Try.prog) (w := w) (rs := [.tmp 6]) (vs := [.bool (decide (t21025.2.2.2.2.2.1 > 0))]) (.tmp rfl .nil)
            obtain rfl := Option.some.inj H
            exact leave ht rfl hres ⟨rfl, ((hm.pick [] rfl (by decide)).pickφ [] rfl).post fun _ h => h⟩
          · replace H := ite_no h21022 H
            refine wpc_no ht rfl (decide_eq_false h21022) ?_
            refine wp_skip ?_
            refine then_normal ?_
            refine wp_seq ?_
            refine wpr ?_
            refine wpl rfl rfl ht (ev_move ht rfl rfl) ?_
            intro a ht
            refine wpl rfl rfl ht (ev_nilCheck ht rfl rfl) ?_
            intro a ht
            refine wpl rfl rfl ht (ev_fieldAddr ht rfl rfl fo_45_5) ?_
            intro a ht
            refine wpl rfl rfl ht (ev_load ht rfl rfl sc_2 (hm.blk_cell 2 rfl ((seg_col _ _ 141).trans ((seg_col _ _ 3).trans rfl)))) ?_
            intro a ht
            refine wpl rfl rfl ht (ev_cmp (r := false) ht rfl rfl rfl (by decide)) ?_
            intro a ht
            refine wpl rfl rfl ht (ev_assign ht rfl rfl) ?_
            intro a ht
            refine wpList_nil ?_
            refine then_normal ?_
            refine wp_ret ?_
            have hres := ht.res (P := Try.prog) (w := w) (rs := [.tmp 6]) (vs := [.bool false]) (.tmp rfl .nil)
            obtain rfl := Option.some.inj H
            exact leave ht rfl hres ⟨rfl, ((hm.pick [] rfl (by decide)).pickφ [] rfl).post fun _ h => h⟩
        · refine wph_step rfl ?_
          refine wpl_alloc rfl rfl ht hm rfl zo_27 ?_
          intro b6520 a ht w hm
          have hS : Ms X (fps []) w0 [.vec As0_1 cs0_2 2 1 ms0_3 (ints ((ls0_4.set (Int.toNat 0) q_).set q_.toNat 0)), .vec As0_5 cs0_6 2 1 ms0_7 (ints ((ls0_8.set (Int.toNat 0) p).set p.toNat 0)), .blk b1 27 (Col.cells x)] [] w := (hm.pick [2, 3, 4] rfl (by decide)).pickφ [] rfl
          refine wpList_nil (qn ⟨hS, ?_⟩)
          refine wph_one (i := 5) (by kernel_rfl) (wph_step rfl ?_)
          obtain ⟨t5520, et5520, H⟩ := bind_get H
          have hcall := spec_l01Renamed.calls q4 _ _ As0_1 cs0_2 ms0_3 x ((ls0_4.set (Int.toNat 0) q_).set q_.toNat 0) _ ((fun (hq : Ms _ _ _ ([] ++ [.blk b6520 27 (Col.cells Col.zero), .blk b7520 27 (Col.cells Col.zero), .vec As0_1 cs0_2 2 1 ms0_3 (ints ((ls0_4.set (Int.toNat 0) q_).set q_.toNat 0)), .vec As0_5 cs0_6 2 1 ms0_7 (ints ((ls0_8.set (Int.toNat 0) p).set p.toNat 0)), .blk b1 27 (Col.cells x)]) _ _) => hq.lend (φp := [IntsAt As0_1 cs0_2 ms0_3 ((ls0_4.set (Int.toNat 0) q_).set q_.toNat 0)]) (allRO_cons (hq.lendVec 2 rfl) (allRO_nil))) (hm.pick (own' := [] ++ [.blk b6520 27 (Col.cells Col.zero), .blk b7520 27 (Col.cells Col.zero), .vec As0_1 cs0_2 2 1 ms0_3 (ints ((ls0_4.set (Int.toNat 0) q_).set q_.toNat 0)), .vec As0_5 cs0_6 2 1 ms0_7 (ints ((ls0_8.set (Int.toNat 0) p).set p.toNat 0)), .blk b1 27 (Col.cells x)]) [0, 1, 2, 3, 4] rfl (by decide))) et5520
          refine wpl_call _ rfl rfl ht rfl rfl rfl rfl can_28 hcall ?_
          clear hcall
          rintro _ w ⟨rfl, hpost⟩ a ht
          replace hm := (hm.pick (own' := [] ++ [.blk b6520 27 (Col.cells Col.zero), .blk b7520 27 (Col.cells Col.zero), .vec As0_1 cs0_2 2 1 ms0_3 (ints ((ls0_4.set (Int.toNat 0) q_).set q_.toNat 0)), .vec As0_5 cs0_6 2 1 ms0_7 (ints ((ls0_8.set (Int.toNat 0) p).set p.toNat 0)), .blk b1 27 (Col.cells x)]) [0, 1, 2, 3, 4] rfl (by decide)).backL hpost
          clear hpost
          have hS : Ms X (fps []) w0 [.vec As0_1 cs0_2 2 1 ms0_3 (ints ((ls0_4.set (Int.toNat 0) q_).set q_.toNat 0)), .vec As0_5 cs0_6 2 1 ms0_7 (ints ((ls0_8.set (Int.toNat 0) p).set p.toNat 0)), .blk b1 27 (Col.cells x)] [] w := (hm.pick [2, 3, 4] rfl (by decide)).pickφ [] rfl
          refine wpList_nil (qn ⟨hS, ?_⟩)
          refine wph_one (i := 8) (by kernel_rfl) (wph_step rfl ?_)
          refine wpl_store_whole 0 rfl rfl ht hm rfl rfl rfl (szn_27.trans (by first | rw [Col.length_cells] | rfl)) rfl (by simp only [Col.length_cells]) (Col.cells_one _) ?_
          intro a ht w hm
          have hS : Ms X (fps []) w0 [.vec As0_1 cs0_2 2 1 ms0_3 (ints ((ls0_4.set (Int.toNat 0) q_).set q_.toNat 0)), .vec As0_5 cs0_6 2 1 ms0_7 (ints ((ls0_8.set (Int.toNat 0) p).set p.toNat 0)), .blk b1 27 (Col.cells x)] [] w := (hm.pick [2, 3, 4] rfl (by decide)).pickφ [] rfl
          refine wpList_nil (qn ⟨hS, ?_⟩)
          refine wph_one (i := 9) (by kernel_rfl) (wph_step rfl ?_)
          refine wpl_store_whole 1 rfl rfl ht hm rfl rfl rfl (szn_27.trans (by first | rw [Col.length_cells] | rfl)) rfl (by simp only [Col.length_cells]) (Col.cells_one _) ?_
          intro a ht w hm
          have hS : Ms X (fps []) w0 [.vec As0_1 cs0_2 2 1 ms0_3 (ints ((ls0_4.set (Int.toNat 0) q_).set q_.toNat 0)), .vec As0_5 cs0_6 2 1 ms0_7 (ints ((ls0_8.set (Int.toNat 0) p).set p.toNat 0)), .blk b1 27 (Col.cells x)] [] w := (hm.pick [2, 3, 4] rfl (by decide)).pickφ [] rfl
          refine wpList_nil (qn ⟨hS, ?_⟩)
          refine wph_done (by kernel_rfl) ?_
          refine then_normal ?_
          refine wp_seq ?_
          refine wph_begin (fun w => Ms X (fps []) w0 [.blk b6520 27 (Col.cells t2520), .blk b7520 27 (Col.cells t5520), .vec As0_1 cs0_2 2 1 ms0_3 (ints ((ls0_4.set (Int.toNat 0) q_).set q_.toNat 0)), .vec As0_5 cs0_6 2 1 ms0_7 (ints ((ls0_8.set (Int.toNat 0) p).set p.toNat 0)), .blk b1 27 (Col.cells x)] [] w) mixed ?_
          replace hm := hm.drew
          have hS : Ms X (fps []) w0 [.blk b6520 27 (Col.cells t2520), .blk b7520 27 (Col.cells t5520), .vec As0_1 cs0_2 2 1 ms0_3 (ints ((ls0_4.set (Int.toNat 0) q_).set q_.toNat 0)), .vec As0_5 cs0_6 2 1 ms0_7 (ints ((ls0_8.set (Int.toNat 0) p).set p.toNat 0)), .blk b1 27 (Col.cells x)] [] w.drew := (hm.pick [0, 1, 2, 3, 4] rfl (by decide)).pickφ [] rfl
          generalize w.drew = w at hm hS ⊢
          refine wph_take (i := 0) rfl (by kernel_rfl) (by kernel_rfl) (by kernel_rfl) (fun _ _ _ h => h) rfl ht hS (wanted_plain rfl) (fun w hm => ev_load_agg ht rfl rfl (ag_27.trans (by first | rw [Col.length_cells] | rfl)) (hm.blk_all 0 rfl)) ?_
          intro a ht
          refine wph_take (i := 1) rfl (by kernel_rfl) (by kernel_rfl) (by kernel_rfl) (fun _ _ _ h => h) rfl ht hS (wanted_plain rfl) (fun w hm => ev_load_agg ht rfl rfl (ag_27.trans (by first | rw [Col.length_cells] | rfl)) (hm.blk_all 1 rfl)) ?_
          intro a ht
          refine wph_take (i := 2) rfl (by kernel_rfl) (by kernel_rfl) (by kernel_rfl) (fun _ _ _ h => h) rfl ht hS (wanted_plain rfl) (fun w hm => ev_load_agg ht rfl rfl (ag_27.trans (by first | rw [Col.length_cells] | rfl)) (hm.blk_all 0 rfl)) ?_
          intro a ht
          refine wph_take (i := 4) rfl (by kernel_rfl) (by kernel_rfl) (by kernel_rfl) (fun _ _ _ h => h) rfl ht hS (wanted_plain rfl) (fun w hm => ev_load_agg ht rfl rfl (ag_27.trans (by first | rw [Col.length_cells] | rfl)) (hm.blk_all 1 rfl)) ?_
          intro a ht
          refine wph_one (i := 3) (by kernel_rfl) (wph_step rfl ?_)
          obtain ⟨t14520, et14520, H⟩ := bind_get H
          have hcall := spec_l06Types.calls q4 _ _ t2520 _ ((fun (hq : Ms _ _ _ ([] ++ [.blk b6520 27 (Col.cells t2520), .blk b7520 27 (Col.cells t5520), .vec As0_1 cs0_2 2 1 ms0_3 (ints ((ls0_4.set (Int.toNat 0) q_).set q_.toNat 0)), .vec As0_5 cs0_6 2 1 ms0_7 (ints ((ls0_8.set (Int.toNat 0) p).set p.toNat 0)), .blk b1 27 (Col.cells x)]) _ _) => hq.lend (φp := []) (allRO_nil)) (hm.pick (own' := [] ++ [.blk b6520 27 (Col.cells t2520), .blk b7520 27 (Col.cells t5520), .vec As0_1 cs0_2 2 1 ms0_3 (ints ((ls0_4.set (Int.toNat 0) q_).set q_.toNat 0)), .vec As0_5 cs0_6 2 1 ms0_7 (ints ((ls0_8.set (Int.toNat 0) p).set p.toNat 0)), .blk b1 27 (Col.cells x)]) [0, 1, 2, 3, 4] rfl (by decide))) et14520
          refine wpl_call _ rfl rfl ht rfl rfl rfl rfl can_44 hcall ?_
          clear hcall
          rintro _ w ⟨A14521, c14522, m14523, rfl, hpost⟩ a ht
          replace hm := (hm.pick (own' := [] ++ [.blk b6520 27 (Col.cells t2520), .blk b7520 27 (Col.cells t5520), .vec As0_1 cs0_2 2 1 ms0_3 (ints ((ls0_4.set (Int.toNat 0) q_).set q_.toNat 0)), .vec As0_5 cs0_6 2 1 ms0_7 (ints ((ls0_8.set (Int.toNat 0) p).set p.toNat 0)), .blk b1 27 (Col.cells x)]) [0, 1, 2, 3, 4] rfl (by decide)).backL hpost
          clear hpost
          have hS : Ms X (fps []) w0 [.blk b6520 27 (Col.cells t2520), .blk b7520 27 (Col.cells t5520), .vec As0_1 cs0_2 2 1 ms0_3 (ints ((ls0_4.set (Int.toNat 0) q_).set q_.toNat 0)), .vec As0_5 cs0_6 2 1 ms0_7 (ints ((ls0_8.set (Int.toNat 0) p).set p.toNat 0)), .blk b1 27 (Col.cells x)] [] w := (hm.pick [1, 2, 3, 4, 5] rfl (by decide)).pickφ [] rfl
          refine wpList_nil (qn ⟨hS, ?_⟩)
          refine wph_one (i := 5) (by kernel_rfl) (wph_step rfl ?_)
          obtain ⟨t16520, et16520, H⟩ := bind_get H
          have hcall := spec_l06Types.calls q4 _ _ t5520 _ ((fun (hq : Ms _ _ _ ([] ++ [.vec A14521 c14522 2 1 m14523 (ints t14520), .blk b6520 27 (Col.cells t2520), .blk b7520 27 (Col.cells t5520), .vec As0_1 cs0_2 2 1 ms0_3 (ints ((ls0_4.set (Int.toNat 0) q_).set q_.toNat 0)), .vec As0_5 cs0_6 2 1 ms0_7 (ints ((ls0_8.set (Int.toNat 0) p).set p.toNat 0)), .blk b1 27 (Col.cells x)]) _ _) => hq.lend (φp := []) (allRO_nil)) (hm.pick (own' := [] ++ [.vec A14521 c14522 2 1 m14523 (ints t14520), .blk b6520 27 (Col.cells t2520), .blk b7520 27 (Col.cells t5520), .vec As0_1 cs0_2 2 1 ms0_3 (ints ((ls0_4.set (Int.toNat 0) q_).set q_.toNat 0)), .vec As0_5 cs0_6 2 1 ms0_7 (ints ((ls0_8.set (Int.toNat 0) p).set p.toNat 0)), .blk b1 27 (Col.cells x)]) [0, 1, 2, 3, 4, 5] rfl (by decide))) et16520
          refine wpl_call _ rfl rfl ht rfl rfl rfl rfl can_44 hcall ?_
          clear hcall
          rintro _ w ⟨A16521, c16522, m16523, rfl, hpost⟩ a ht
          replace hm := (hm.pick (own' := [] ++ [.vec A14521 c14522 2 1 m14523 (ints t14520), .blk b6520 27 (Col.cells t2520), .blk b7520 27 (Col.cells t5520), .vec As0_1 cs0_2 2 1 ms0_3 (ints ((ls0_4.set (Int.toNat 0) q_).set q_.toNat 0)), .vec As0_5 cs0_6 2 1 ms0_7 (ints ((ls0_8.set (Int.toNat 0) p).set p.toNat 0)), .blk b1 27 (Col.cells x)]) [0, 1, 2, 3, 4, 5] rfl (by decide)).backL hpost
          clear hpost
          have hS : Ms X (fps []) w0 [.blk b6520 27 (Col.cells t2520), .blk b7520 27 (Col.cells t5520), .vec As0_1 cs0_2 2 1 ms0_3 (ints ((ls0_4.set (Int.toNat 0) q_).set q_.toNat 0)), .vec As0_5 cs0_6 2 1 ms0_7 (ints ((ls0_8.set (Int.toNat 0) p).set p.toNat 0)), .blk b1 27 (Col.cells x)] [] w := (hm.pick [2, 3, 4, 5, 6] rfl (by decide)).pickφ [] rfl
          refine wpList_nil (qn ⟨hS, ?_⟩)
          refine wph_take (i := 6) rfl (by kernel_rfl) (by kernel_rfl) (by kernel_rfl) (fun _ _ _ h => h) rfl ht hS (wanted_plain rfl) (fun w hm => ev_build (vs := (Col.cells t2520 ++ (Col.cells t5520 ++ ([.slice A14521 m14523 c14522, .slice A16521 m16523 c16522, .int .i64 1, .int .i64 0, .slice none 0 0])))) ht rfl bi_45 rfl (fill_two _ _ _ _ _ _ _ _ _ _ rfl rfl rfl)) ?_
          intro a ht
          refine wph_one (i := 7) (by kernel_rfl) (wph_step rfl ?_)
          refine wpl_box rfl rfl ht hm rfl rfl rfl ?_
          intro b18520 a ht w hm
          have hS : Ms X (fps []) w0 [.blk b6520 27 (Col.cells t2520), .blk b7520 27 (Col.cells t5520), .vec As0_1 cs0_2 2 1 ms0_3 (ints ((ls0_4.set (Int.toNat 0) q_).set q_.toNat 0)), .vec As0_5 cs0_6 2 1 ms0_7 (ints ((ls0_8.set (Int.toNat 0) p).set p.toNat 0)), .blk b1 27 (Col.cells x)] [] w := (hm.pick [3, 4, 5, 6, 7] rfl (by decide)).pickφ [] rfl
          refine wpList_nil (qn ⟨hS, ?_⟩)
          refine wph_take (i := 8) rfl (by kernel_rfl) (by kernel_rfl) (by kernel_rfl) (fun _ _ _ h => h) rfl ht hS (wanted_plain rfl) (fun w hm => ev_assign ht rfl rfl) ?_
          intro a ht
          refine wph_done (by kernel_rfl) ?_
          replace hm := hm.pick (own' := [.vec A14521 c14522 2 1 m14523 (ints t14520), .vec A16521 c16522 2 1 m16523 (ints t16520), .blk b18520 45 (Col.cells t2520 ++ (Col.cells t5520 ++ ([.slice A14521 m14523 c14522, .slice A16521 m16523 c16522, .int .i64 1, .int .i64 0, .slice none 0 0]))), .blk b6520 27 (Col.cells t2520), .blk b7520 27 (Col.cells t5520), .vec As0_1 cs0_2 2 1 ms0_3 (ints ((ls0_4.set (Int.toNat 0) q_).set q_.toNat 0)), .vec As0_5 cs0_6 2 1 ms0_7 (ints ((ls0_8.set (Int.toNat 0) p).set p.toNat 0)), .blk b1 27 (Col.cells x)]) [2, 1, 0, 3, 4, 5, 6, 7] rfl (by decide)
          refine then_normal ?_
          refine wp_seq ?_
          refine wp_seq ?_
          refine wph_begin (fun w => Ms X (fps []) w0 [.vec A14521 c14522 2 1 m14523 (ints t14520), .vec A16521 c16522 2 1 m16523 (ints t16520), .blk b18520 45 (Col.cells t2520 ++ (Col.cells t5520 ++ ([.slice A14521 m14523 c14522, .slice A16521 m16523 c16522, .int .i64 1, .int .i64 0, .slice none 0 0]))), .blk b6520 27 (Col.cells t2520), .blk b7520 27 (Col.cells t5520), .vec As0_1 cs0_2 2 1 ms0_3 (ints ((ls0_4.set (Int.toNat 0) q_).set q_.toNat 0)), .vec As0_5 cs0_6 2 1 ms0_7 (ints ((ls0_8.set (Int.toNat 0) p).set p.toNat 0)), .blk b1 27 (Col.cells x)] [] w) mixed ?_
          replace hm := hm.drew
          have hS : Ms X (fps []) w0 [.vec A14521 c14522 2 1 m14523 (ints t14520), .vec A16521 c16522 2 1 m16523 (ints t16520), .blk b18520 45 (Col.cells t2520 ++ (Col.cells t5520 ++ ([.slice A14521 m14523 c14522, .slice A16521 m16523 c16522, .int .i64 1, .int .i64 0, .slice none 0 0]))), .blk b6520 27 (Col.cells t2520), .blk b7520 27 (Col.cells t5520), .vec As0_1 cs0_2 2 1 ms0_3 (ints ((ls0_4.set (Int.toNat 0) q_).set q_.toNat 0)), .vec As0_5 cs0_6 2 1 ms0_7 (ints ((ls0_8.set (Int.toNat 0) p).set p.toNat 0)), .blk b1 27 (Col.cells x)] [] w.drew := (hm.pick [0, 1, 2, 3, 4, 5, 6, 7] rfl (by decide)).pickφ [] rfl
          generalize w.drew = w at hm hS ⊢
          refine wph_take (i := 0) rfl (by kernel_rfl) (by kernel_rfl) (by kernel_rfl) (fun _ _ _ h => h) rfl ht hS (wanted_plain rfl) (fun w hm => ev_move ht rfl rfl) ?_
          intro a ht
          refine wph_take (i := 1) rfl (by kernel_rfl) (by kernel_rfl) (by kernel_rfl) (fun _ _ _ h => h) rfl ht hS (wanted_plain rfl) (fun w hm => ev_nilCheck ht rfl rfl) ?_
          intro a ht
          refine wph_take (i := 2) rfl (by kernel_rfl) (by kernel_rfl) (by kernel_rfl) (fun _ _ _ h => h) rfl ht hS (wanted_plain rfl) (fun w hm => ev_fieldAddr ht rfl rfl fo_45_2) ?_
          intro a ht
          refine wph_take (i := 3) rfl (by kernel_rfl) (by kernel_rfl) (by kernel_rfl) (fun _ _ _ h => h) rfl ht hS (wanted_plain rfl) (fun w hm => ev_load ht rfl rfl sc_43 (hm.blk_cell 2 rfl ((seg_col _ _ 138).trans ((seg_col _ _ 0).trans rfl)))) ?_
          intro a ht
          obtain ⟨t21020, et21020, H⟩ := bind_get H
          refine wph_take (i := 4) rfl (by kernel_rfl) (by kernel_rfl) (by kernel_rfl) (fun _ _ _ h => h) rfl ht hS (wanted_plain rfl) (fun w hm => ev_index_ints ht rfl rfl rfl so_43 (hm.vec_row 0 rfl) et21020) ?_
          intro a ht
          refine wph_take (i := 5) rfl (by kernel_rfl) (by kernel_rfl) (by kernel_rfl) (fun _ _ _ h => h) rfl ht hS (wanted_plain rfl) (fun w hm => ev_load ht rfl rfl sc_2 (RowAt.cell (hm.vec_row 0 rfl) (ints_get et21020) rfl)) ?_
          intro a ht
          refine wph_take (i := 6) rfl (by kernel_rfl) (by kernel_rfl) (by kernel_rfl) (fun _ _ _ h => h) rfl ht hS (wanted_plain rfl) (fun w hm => ev_move ht rfl rfl) ?_
          intro a ht
          refine wph_take (i := 7) rfl (by kernel_rfl) (by kernel_rfl) (by kernel_rfl) (fun _ _ _ h => h) rfl ht hS (wanted_plain rfl) (fun w hm => ev_nilCheck ht rfl rfl) ?_
          intro a ht
          refine wph_take (i := 8) rfl (by kernel_rfl) (by kernel_rfl) (by kernel_rfl) (fun _ _ _ h => h) rfl ht hS (wanted_plain rfl) (fun w hm => ev_fieldAddr ht rfl rfl fo_45_3) ?_
          intro a ht
          refine wph_take (i := 9) rfl (by kernel_rfl) (by kernel_rfl) (by kernel_rfl) (fun _ _ _ h => h) rfl ht hS (wanted_plain rfl) (fun w hm => ev_load ht rfl rfl sc_43 (hm.blk_cell 2 rfl ((seg_col _ _ 139).trans ((seg_col _ _ 1).trans rfl)))) ?_
          intro a ht
          obtain ⟨t21021, et21021, H⟩ := bind_get H
          refine wph_take (i := 10) rfl (by kernel_rfl) (by kernel_rfl) (by kernel_rfl) (fun _ _ _ h => h) rfl ht hS (wanted_plain rfl) (fun w hm => ev_index_ints ht rfl rfl rfl so_43 (hm.vec_row 1 rfl) et21021) ?_
          intro a ht
          refine wph_take (i := 11) rfl (by kernel_rfl) (by kernel_rfl) (by kernel_rfl) (fun _ _ _ h => h) rfl ht hS (wanted_plain rfl) (fun w hm => ev_load ht rfl rfl sc_2 (RowAt.cell (hm.vec_row 1 rfl) (ints_get et21021) rfl)) ?_
          intro a ht
          refine wph_take (i := 12) rfl (by kernel_rfl) (by kernel_rfl) (by kernel_rfl) (fun _ _ _ h => h) rfl ht hS (wanted_plain rfl) (fun w hm => ev_cmp ht rfl rfl rfl rfl) ?_
          intro a ht
          refine wph_done (by kernel_rfl) ?_
          refine then_normal ?_
          by_cases h21022 : t21020 = t21021
          · replace H := ite_yes h21022 H
            refine wpc_yes ht rfl (decide_eq_true h21022) ?_
            refine wpr ?_
            refine wpl rfl rfl ht (ev_move ht rfl rfl) ?_
            intro a ht
            refine wpl_build_ints (l := [0]) rfl rfl ht hm rfl und_43 zo_2 sz1_2 (by decide) rfl rfl rfl ?_
            intro A21023 a ht w hm
            replace hm : Ms _ _ _ _ (IntsAt A14521 c14522 m14523 t14520 :: _) w := hm.shutVec 1 rfl
            replace hm : Ms _ _ _ _ (IntsAt A16521 c16522 m16523 t16520 :: _) w := hm.shutVec 1 rfl
            replace hm : Ms _ _ _ _ (IntsAt A21023 1 1 ([0]) :: _) w := hm.shutVec 0 rfl
            replace hm : Ms _ _ _ _ (IntsAt none 0 0 ([] : List Int) :: _) w := hm.nilRow none 1
            obtain ⟨t21025, et21025, H⟩ := bind_get H
            have hcall := spec_l06Go.calls q4 _ _ b18520 A14521 c14522 m14523 A16521 c16522 m16523 none 0 0 A21023 1 1 t2520 t5520 t14520 t16520 1 0 ([]) ([0]) 1 _ ((hm.pick (own' := [.blk b18520 45 (Col.cells t2520 ++ (Col.cells t5520 ++ ([.slice A14521 m14523 c14522, .slice A16521 m16523 c16522, .int .i64 1, .int .i64 0, .slice none 0 0])))] ++ [.blk b6520 27 (Col.cells t2520), .blk b7520 27 (Col.cells t5520), .vec As0_1 cs0_2 2 1 ms0_3 (ints ((ls0_4.set (Int.toNat 0) q_).set q_.toNat 0)), .vec As0_5 cs0_6 2 1 ms0_7 (ints ((ls0_8.set (Int.toNat 0) p).set p.toNat 0)), .blk b1 27 (Col.cells x)]) [0, 1, 2, 3, 4, 5] rfl (by decide)).give (passed := [.blk b18520 45 (Col.cells t2520 ++ (Col.cells t5520 ++ ([.slice A14521 m14523 c14522, .slice A16521 m16523 c16522, .int .i64 1, .int .i64 0, .slice none 0 0])))]) (rest := [.blk b6520 27 (Col.cells t2520), .blk b7520 27 (Col.cells t5520), .vec As0_1 cs0_2 2 1 ms0_3 (ints ((ls0_4.set (Int.toNat 0) q_).set q_.toNat 0)), .vec As0_5 cs0_6 2 1 ms0_7 (ints ((ls0_8.set (Int.toNat 0) p).set p.toNat 0)), .blk b1 27 (Col.cells x)]) (φp := [IntsAt A14521 c14522 m14523 t14520, IntsAt A16521 c16522 m16523 t16520, IntsAt none 0 0 ([] : List Int), IntsAt A21023 1 1 ([0])]) [3, 2, 0, 1] rfl) et21025
            refine wpl_call _ rfl rfl ht rfl rfl rfl rfl can_45 hcall ?_
            clear hcall
            rintro _ w ⟨A21026, c21027, m21028, A21029, c21030, m21031, A21032, c21033, m21034, rfl, hpost⟩ a ht
            replace hm := (hm.pick (own' := [.blk b18520 45 (Col.cells t2520 ++ (Col.cells t5520 ++ ([.slice A14521 m14523 c14522, .slice A16521 m16523 c16522, .int .i64 1, .int .i64 0, .slice none 0 0])))] ++ [.blk b6520 27 (Col.cells t2520), .blk b7520 27 (Col.cells t5520), .vec As0_1 cs0_2 2 1 ms0_3 (ints ((ls0_4.set (Int.toNat 0) q_).set q_.toNat 0)), .vec As0_5 cs0_6 2 1 ms0_7 (ints ((ls0_8.set (Int.toNat 0) p).set p.toNat 0)), .blk b1 27 (Col.cells x)]) [0, 1, 2, 3, 4, 5] rfl (by decide)).back hpost
            clear hpost
            refine wpList_nil ?_
            refine then_normal ?_
            refine wp_seq ?_
            refine wpr ?_
            refine wpl rfl rfl ht (ev_move ht rfl rfl) ?_
            intro a ht
            refine wpl rfl rfl ht (ev_nilCheck ht rfl rfl) ?_
            intro a ht
            refine wpl rfl rfl ht (ev_fieldAddr ht rfl rfl fo_45_5) ?_
            intro a ht
            refine wpl rfl rfl ht (ev_load ht rfl rfl sc_2 (hm.blk_cell 0 rfl ((seg_col _ _ 141).trans ((seg_col _ _ 3).trans rfl)))) ?_
            intro a ht
            refine wpl rfl rfl ht (ev_cmp ht rfl rfl rfl rfl) ?_
            intro a ht
            refine wpl rfl rfl ht (ev_assign ht rfl rfl) ?_
            intro a ht
            refine wpList_nil ?_
            refine then_normal ?_
            refine wp_ret ?_
            have hres := ht.res (P := Try.prog) (w := w) (rs := [.tmp 6]) (vs := [.bool (decide (t21025.2.2.2.2.2.1 > 0))]) (.tmp rfl .nil)
            obtain rfl := Option.some.inj H
            exact leave ht rfl hres ⟨rfl, ((hm.pick [] rfl (by decide)).pickφ [] rfl).post fun _ h => h⟩
          · replace H := ite_no h21022 H
            refine wpc_no ht rfl (decide_eq_false h21022) ?_
            refine wp_skip ?_
            refine then_normal ?_
            refine wp_seq ?_
            refine wpr ?_
            refine wpl rfl rfl ht (ev_move ht rfl rfl) ?_
            intro a ht
            refine wpl rfl rfl ht (ev_nilCheck ht rfl rfl) ?_
            intro a ht
            refine wpl rfl rfl ht (ev_fieldAddr ht rfl rfl fo_45_5) ?_
            intro a ht
            refine wpl rfl rfl ht (ev_load ht rfl rfl sc_2 (hm.blk_cell 2 rfl ((seg_col _ _ 141).trans ((seg_col _ _ 3).trans rfl)))) ?_
            intro a ht
            refine wpl rfl rfl ht (ev_cmp (r := false) ht rfl rfl rfl (by decide)) ?_
            intro a ht
            refine wpl rfl rfl ht (ev_assign ht rfl rfl) ?_
            intro a ht
            refine wpList_nil ?_
            refine then_normal ?_
            refine wp_ret ?_
            have hres := ht.res (P := Try.prog) (w := w) (rs := [.tmp 6]) (vs := [.bool false]) (.tmp rfl .nil)
            obtain rfl := Option.some.inj H
            exact leave ht rfl hres ⟨rfl, ((hm.pick [] rfl (by decide)).pickφ [] rfl).post fun _ h => h⟩
      · refine wph_step rfl ?_
        refine wpl_alloc rfl rfl ht hm rfl zo_27 ?_
        intro b6520 a ht w hm
        have hS : Ms X (fps []) w0 [.vec As0_1 cs0_2 2 1 ms0_3 (ints ((ls0_4.set (Int.toNat 0) q_).set q_.toNat 0)), .vec As0_5 cs0_6 2 1 ms0_7 (ints ((ls0_8.set (Int.toNat 0) p).set p.toNat 0)), .blk b1 27 (Col.cells x)] [] w := (hm.pick [2, 3, 4] rfl (by decide)).pickφ [] rfl
        refine wpList_nil (qn ⟨hS, ?_⟩)
        refine wph_one (i := 2) (by kernel_rfl) (wph_step rfl ?_)
        obtain ⟨t2520, et2520, H⟩ := bind_get H
        have hcall := spec_l01Renamed.calls q4 _ _ As0_5 cs0_6 ms0_7 x ((ls0_8.set (Int.toNat 0) p).set p.toNat 0) _ ((fun (hq : Ms _ _ _ ([] ++ [.blk b6520 27 (Col.cells Col.zero), .blk b7520 27 (Col.cells Col.zero), .vec As0_1 cs0_2 2 1 ms0_3 (ints ((ls0_4.set (Int.toNat 0) q_).set q_.toNat 0)), .vec As0_5 cs0_6 2 1 ms0_7 (ints ((ls0_8.set (Int.toNat 0) p).set p.toNat 0)), .blk b1 27 (Col.cells x)]) _ _) => hq.lend (φp := [IntsAt As0_5 cs0_6 ms0_7 ((ls0_8.set (Int.toNat 0) p).set p.toNat 0)]) (allRO_cons (hq.lendVec 3 rfl) (allRO_nil))) (hm.pick (own' := [] ++ [.blk b6520 27 (Col.cells Col.zero), .blk b7520 27 (Col.cells Col.zero), .vec As0_1 cs0_2 2 1 ms0_3 (ints ((ls0_4.set (Int.toNat 0) q_).set q_.toNat 0)), .vec As0_5 cs0_6 2 1 ms0_7 (ints ((ls0_8.set (Int.toNat 0) p).set p.toNat 0)), .blk b1 27 (Col.cells x)]) [0, 1, 2, 3, 4] rfl (by decide))) et2520
        refine wpl_call _ rfl rfl ht rfl rfl rfl rfl can_28 hcall ?_
        clear hcall
        rintro _ w ⟨rfl, hpost⟩ a ht
        replace hm := (hm.pick (own' := [] ++ [.blk b6520 27 (Col.cells Col.zero), .blk b7520 27 (Col.cells Col.zero), .vec As0_1 cs0_2 2 1 ms0_3 (ints ((ls0_4.set (Int.toNat 0) q_).set q_.toNat 0)), .vec As0_5 cs0_6 2 1 ms0_7 (ints ((ls0_8.set (Int.toNat 0) p).set p.toNat 0)), .blk b1 27 (Col.cells x)]) [0, 1, 2, 3, 4] rfl (by decide)).backL hpost
        clear hpost
        have hS : Ms X (fps []) w0 [.vec As0_1 cs0_2 2 1 ms0_3 (ints ((ls0_4.set (Int.toNat 0) q_).set q_.toNat 0)), .vec As0_5 cs0_6 2 1 ms0_7 (ints ((ls0_8.set (Int.toNat 0) p).set p.toNat 0)), .blk b1 27 (Col.cells x)] [] w := (hm.pick [2, 3, 4] rfl (by decide)).pickφ [] rfl
        refine wpList_nil (qn ⟨hS, ?_⟩)
        refine wph_one (i := 5) (by kernel_rfl) (wph_step rfl ?_)
        obtain ⟨t5520, et5520, H⟩ := bind_get H
        have hcall := spec_l01Renamed.calls q4 _ _ As0_1 cs0_2 ms0_3 x ((ls0_4.set (Int.toNat 0) q_).set q_.toNat 0) _ ((fun (hq : Ms _ _ _ ([] ++ [.blk b6520 27 (Col.cells Col.zero), .blk b7520 27 (Col.cells Col.zero), .vec As0_1 cs0_2 2 1 ms0_3 (ints ((ls0_4.set (Int.toNat 0) q_).set q_.toNat 0)), .vec As0_5 cs0_6 2 1 ms0_7 (ints ((ls0_8.set (Int.toNat 0) p).set p.toNat 0)), .blk b1 27 (Col.cells x)]) _ _) => hq.lend (φp := [IntsAt As0_1 cs0_2 ms0_3 ((ls0_4.set (Int.toNat 0) q_).set q_.toNat 0)]) (allRO_cons (hq.lendVec 2 rfl) (allRO_nil))) (hm.pick (own' := [] ++ [.blk b6520 27 (Col.cells Col.zero), .blk b7520 27 (Col.cells Col.zero), .vec As0_1 cs0_2 2 1 ms0_3 (ints ((ls0_4.set (Int.toNat 0) q_).set q_.toNat 0)), .vec As0_5 cs0_6 2 1 ms0_7 (ints ((ls0_8.set (Int.toNat 0) p).set p.toNat 0)), .blk b1 27 (Col.cells x)]) [0, 1, 2, 3, 4] rfl (by decide))) et5520
        refine wpl_call _ rfl rfl ht rfl rfl rfl rfl can_28 hcall ?_
        clear hcall
        rintro _ w ⟨rfl, hpost⟩ a ht
        replace hm := (hm.pick (own' := [] ++ [.blk b6520 27 (Col.cells Col.zero), .blk b7520 27 (Col.cells Col.zero), .vec As0_1 cs0_2 2 1 ms0_3 (ints ((ls0_4.set (Int.toNat 0) q_).set q_.toNat 0)), .vec As0_5 cs0_6 2 1 ms0_7 (ints ((ls0_8.set (Int.toNat 0) p).set p.toNat 0)), .blk b1 27 (Col.cells x)]) [0, 1, 2, 3, 4] rfl (by decide)).backL hpost
        clear hpost
        have hS : Ms X (fps []) w0 [.vec As0_1 cs0_2 2 1 ms0_3 (ints ((ls0_4.set (Int.toNat 0) q_).set q_.toNat 0)), .vec As0_5 cs0_6 2 1 ms0_7 (ints ((ls0_8.set (Int.toNat 0) p).set p.toNat 0)), .blk b1 27 (Col.cells x)] [] w := (hm.pick [2, 3, 4] rfl (by decide)).pickφ [] rfl
        refine wpList_nil (qn ⟨hS, ?_⟩)
        refine wph_one (i := 8) (by kernel_rfl) (wph_step rfl ?_)
        refine wpl_store_whole 0 rfl rfl ht hm rfl rfl rfl (szn_27.trans (by first | rw [Col.length_cells] | rfl)) rfl (by simp only [Col.length_cells]) (Col.cells_one _) ?_
        intro a ht w hm
        have hS : Ms X (fps []) w0 [.vec As0_1 cs0_2 2 1 ms0_3 (ints ((ls0_4.set (Int.toNat 0) q_).set q_.toNat 0)), .vec As0_5 cs0_6 2 1 ms0_7 (ints ((ls0_8.set (Int.toNat 0) p).set p.toNat 0)), .blk b1 27 (Col.cells x)] [] w := (hm.pick [2, 3, 4] rfl (by decide)).pickφ [] rfl
        refine wpList_nil (qn ⟨hS, ?_⟩)
        refine wph_one (i := 9) (by kernel_rfl) (wph_step rfl ?_)
        refine wpl_store_whole 1 rfl rfl ht hm rfl rfl rfl (szn_27.trans (by first | rw [Col.length_cells] | rfl)) rfl (by simp only [Col.length_cells]) (Col.cells_one _) ?_
        intro a ht w hm
        have hS : Ms X (fps []) w0 [.vec As0_1 cs0_2 2 1 ms0_3 (ints ((ls0_4.set (Int.toNat 0) q_).set q_.toNat 0)), .vec As0_5 cs0_6 2 1 ms0_7 (ints ((ls0_8.set (Int.toNat 0) p).set p.toNat 0)), .blk b1 27 (Col.cells x)] [] w := (hm.pick [2, 3, 4] rfl (by decide)).pickφ [] rfl
        refine wpList_nil (qn ⟨hS, ?_⟩)
        refine wph_done (by kernel_rfl) ?_
        refine then_normal ?_
        refine wp_seq ?_
        refine wph_begin (fun w => Ms X (fps []) w0 [.blk b6520 27 (Col.cells t2520), .blk b7520 27 (Col.cells t5520), .vec As0_1 cs0_2 2 1 ms0_3 (ints ((ls0_4.set (Int.toNat 0) q_).set q_.toNat 0)), .vec As0_5 cs0_6 2 1 ms0_7 (ints ((ls0_8.set (Int.toNat 0) p).set p.toNat 0)), .blk b1 27 (Col.cells x)] [] w) mixed ?_
        replace hm := hm.drew
        have hS : Ms X (fps []) w0 [.blk b6520 27 (Col.cells t2520), .blk b7520 27 (Col.cells t5520), .vec As0_1 cs0_2 2 1 ms0_3 (ints ((ls0_4.set (Int.toNat 0) q_).set q_.toNat 0)), .vec As0_5 cs0_6 2 1 ms0_7 (ints ((ls0_8.set (Int.toNat 0) p).set p.toNat 0)), .blk b1 27 (Col.cells x)] [] w.drew := (hm.pick [0, 1, 2, 3, 4] rfl (by decide)).pickφ [] rfl
        generalize w.drew = w at hm hS ⊢
        refine wph_take (i := 0) rfl (by kernel_rfl) (by kernel_rfl) (by kernel_rfl) (fun _ _ _ h => h) rfl ht hS (wanted_plain rfl) (fun w hm => ev_load_agg ht rfl rfl (ag_27.trans (by first | rw [Col.length_cells] | rfl)) (hm.blk_all 0 rfl)) ?_
        intro a ht
        refine wph_take (i := 1) rfl (by kernel_rfl) (by kernel_rfl) (by kernel_rfl) (fun _ _ _ h => h) rfl ht hS (wanted_plain rfl) (fun w hm => ev_load_agg ht rfl rfl (ag_27.trans (by first | rw [Col.length_cells] | rfl)) (hm.blk_all 1 rfl)) ?_
        intro a ht
        refine wph_take (i := 2) rfl (by kernel_rfl) (by kernel_rfl) (by kernel_rfl) (fun _ _ _ h => h) rfl ht hS (wanted_plain rfl) (fun w hm => ev_load_agg ht rfl rfl (ag_27.trans (by first | rw [Col.length_cells] | rfl)) (hm.blk_all 0 rfl)) ?_
        intro a ht
        refine wph_take (i := 4) rfl (by kernel_rfl) (by kernel_rfl) (by kernel_rfl) (fun _ _ _ h => h) rfl ht hS (wanted_plain rfl) (fun w hm => ev_load_agg ht rfl rfl (ag_27.trans (by first | rw [Col.length_cells] | rfl)) (hm.blk_all 1 rfl)) ?_
        intro a ht
        refine wph_one (i := 3) (by kernel_rfl) (wph_step rfl ?_)
        obtain ⟨t14520, et14520, H⟩ := bind_get H
        have hcall := spec_l06Types.calls q4 _ _ t2520 _ ((fun (hq : Ms _ _ _ ([] ++ [.blk b6520 27 (Col.cells t2520), .blk b7520 27 (Col.cells t5520), .vec As0_1 cs0_2 2 1 ms0_3 (ints ((ls0_4.set (Int.toNat 0) q_).set q_.toNat 0)), .vec As0_5 cs0_6 2 1 ms0_7 (ints ((ls0_8.set (Int.toNat 0) p).set p.toNat 0)), .blk b1 27 (Col.cells x)]) _ _) => hq.lend (φp := []) (allRO_nil)) (hm.pick (own' := [] ++ [.blk b6520 27 (Col.cells t2520), .blk b7520 27 (Col.cells t5520), .vec As0_1 cs0_2 2 1 ms0_3 (ints ((ls0_4.set (Int.toNat 0) q_).set q_.toNat 0)), .vec As0_5 cs0_6 2 1 ms0_7 (ints ((ls0_8.set (Int.toNat 0) p).set p.toNat 0)), .blk b1 27 (Col.cells x)]) [0, 1, 2, 3, 4] rfl (by decide))) et14520
        refine wpl_call _ rfl rfl ht rfl rfl rfl rfl can_44 hcall ?_
        clear hcall
        rintro _ w ⟨A14521, c14522, m14523, rfl, hpost⟩ a ht
        replace hm := (hm.pick (own' := [] ++ [.blk b6520 27 (Col.cells t2520), .blk b7520 27 (Col.cells t5520), .vec As0_1 cs0_2 2 1 ms0_3 (ints ((ls0_4.set (Int.toNat 0) q_).set q_.toNat 0)), .vec As0_5 cs0_6 2 1 ms0_7 (ints ((ls0_8.set (Int.toNat 0) p).set p.toNat 0)), .blk b1 27 (Col.cells x)]) [0, 1, 2, 3, 4] rfl (by decide)).backL hpost
        clear hpost
        have hS : Ms X (fps []) w0 [.blk b6520 27 (Col.cells t2520), .blk b7520 27 (Col.cells t5520), .vec As0_1 cs0_2 2 1 ms0_3 (ints ((ls0_4.set (Int.toNat 0) q_).set q_.toNat 0)), .vec As0_5 cs0_6 2 1 ms0_7 (ints ((ls0_8.set (Int.toNat 0) p).set p.toNat 0)), .blk b1 27 (Col.cells x)] [] w := (hm.pick [1, 2, 3, 4, 5] rfl (by decide)).pickφ [] rfl
        refine wpList_nil (qn ⟨hS, ?_⟩)
        refine wph_one (i := 5) (by kernel_rfl) (wph_step rfl ?_)
        obtain ⟨t16520, et16520, H⟩ := bind_get H
        have hcall := spec_l06Types.calls q4 _ _ t5520 _ ((fun (hq : Ms _ _ _ ([] ++ [.vec A14521 c14522 2 1 m14523 (ints t14520), .blk b6520 27 (Col.cells t2520), .blk b7520 27 (Col.cells t5520), .vec As0_1 cs0_2 2 1 ms0_3 (ints ((ls0_4.set (Int.toNat 0) q_).set q_.toNat 0)), .vec As0_5 cs0_6 2 1 ms0_7 (ints ((ls0_8.set (Int.toNat 0) p).set p.toNat 0)), .blk b1 27 (Col.cells x)]) _ _) => hq.lend (φp := []) (allRO_nil)) (hm.pick (own' := [] ++ [.vec A14521 c14522 2 1 m14523 (ints t14520), .blk b6520 27 (Col.cells t2520), .blk b7520 27 (Col.cells t5520), .vec As0_1 cs0_2 2 1 ms0_3 (ints ((ls0_4.set (Int.toNat 0) q_).set q_.toNat 0)), .vec As0_5 cs0_6 2 1 ms0_7 (ints ((ls0_8.set (Int.toNat 0) p).set p.toNat 0)), .blk b1 27 (Col.cells x)]) [0, 1, 2, 3, 4, 5] rfl (by decide))) et16520
        refine wpl_call _ rfl rfl ht rfl rfl rfl rfl can_44 hcall ?_
        clear hcall
        rintro _ w ⟨A16521, c16522, m16523, rfl, hpost⟩ a ht
        replace hm := (hm.pick (own' := [] ++ [.vec A14521 c14522 2 1 m14523 (ints t14520), .blk b6520 27 (Col.cells t2520), .blk b7520 27 (Col.cells t5520), .vec As0_1 cs0_2 2 1 ms0_3 (ints ((ls0_4.set (Int.toNat 0) q_).set q_.toNat 0)), .vec As0_5 cs0_6 2 1 ms0_7 (ints ((ls0_8.set (Int.toNat 0) p).set p.toNat 0)), .blk b1 27 (Col.cells x)]) [0, 1, 2, 3, 4, 5] rfl (by decide)).backL hpost
        clear hpost
        have hS : Ms X (fps []) w0 [.blk b6520 27 (Col.cells t2520), .blk b7520 27 (Col.cells t5520), .vec As0_1 cs0_2 2 1 ms0_3 (ints ((ls0_4.set (Int.toNat 0) q_).set q_.toNat 0)), .vec As0_5 cs0_6 2 1 ms0_7 (ints ((ls0_8.set (Int.toNat 0) p).set p.toNat 0)), .blk b1 27 (Col.cells x)] [] w := (hm.pick [2, 3, 4, 5, 6] rfl (by decide)).pickφ [] rfl
        refine wpList_nil (qn ⟨hS, ?_⟩)
        refine wph_take (i := 6) rfl (by kernel_rfl) (by kernel_rfl) (by kernel_rfl) (fun _ _ _ h => h) rfl ht hS (wanted_plain rfl) (fun w hm => ev_build (vs := (Col.cells t2520 ++ (Col.cells t5520 ++ ([.slice A14521 m14523 c14522, .slice A16521 m16523 c16522, .int .i64 1, .int .i64 0, .slice none 0 0])))) ht rfl bi_45 rfl (fill_two _ _ _ _ _ _ _ _ _ _ rfl rfl rfl)) ?_
        intro a ht
        refine wph_one (i := 7) (by kernel_rfl) (wph_step rfl ?_)
        refine wpl_box rfl rfl ht hm rfl rfl rfl ?_
        intro b18520 a ht w hm
        have hS : Ms X (fps []) w0 [.blk b6520 27 (Col.cells t2520), .blk b7520 27 (Col.cells t5520), .vec As0_1 cs0_2 2 1 ms0_3 (ints ((ls0_4.set (Int.toNat 0) q_).set q_.toNat 0)), .vec As0_5 cs0_6 2 1 ms0_7 (ints ((ls0_8.set (Int.toNat 0) p).set p.toNat 0)), .blk b1 27 (Col.cells x)] [] w := (hm.pick [3, 4, 5, 6, 7] rfl (by decide)).pickφ [] rfl
        refine wpList_nil (qn ⟨hS, ?_⟩)
        refine wph_take (i := 8) rfl (by kernel_rfl) (by kernel_rfl) (by kernel_rfl) (fun _ _ _ h => h) rfl ht hS (wanted_plain rfl) (fun w hm => ev_assign ht rfl rfl) ?_
        intro a ht
        refine wph_done (by kernel_rfl) ?_
        replace hm := hm.pick (own' := [.vec A14521 c14522 2 1 m14523 (ints t14520), .vec A16521 c16522 2 1 m16523 (ints t16520), .blk b18520 45 (Col.cells t2520 ++ (Col.cells t5520 ++ ([.slice A14521 m14523 c14522, .slice A16521 m16523 c16522, .int .i64 1, .int .i64 0, .slice none 0 0]))), .blk b6520 27 (Col.cells t2520), .blk b7520 27 (Col.cells t5520), .vec As0_1 cs0_2 2 1 ms0_3 (ints ((ls0_4.set (Int.toNat 0) q_).set q_.toNat 0)), .vec As0_5 cs0_6 2 1 ms0_7 (ints ((ls0_8.set (Int.toNat 0) p).set p.toNat 0)), .blk b1 27 (Col.cells x)]) [2, 1, 0, 3, 4, 5, 6, 7] rfl (by decide)
        refine then_normal ?_
        refine wp_seq ?_
        refine wp_seq ?_
        refine wph_begin (fun w => Ms X (fps []) w0 [.vec A14521 c14522 2 1 m14523 (ints t14520), .vec A16521 c16522 2 1 m16523 (ints t16520), .blk b18520 45 (Col.cells t2520 ++ (Col.cells t5520 ++ ([.slice A14521 m14523 c14522, .slice A16521 m16523 c16522, .int .i64 1, .int .i64 0, .slice none 0 0]))), .blk b6520 27 (Col.cells t2520), .blk b7520 27 (Col.cells t5520), .vec As0_1 cs0_2 2 1 ms0_3 (ints ((ls0_4.set (Int.toNat 0) q_).set q_.toNat 0)), .vec As0_5 cs0_6 2 1 ms0_7 (ints ((ls0_8.set (Int.toNat 0) p).set p.toNat 0)), .blk b1 27 (Col.cells x)] [] w) mixed ?_
        replace hm := hm.drew
        have hS : Ms X (fps []) w0 [.vec A14521 c14522 2 1 m14523 (ints t14520), .vec A16521 c16522 2 1 m16523 (ints t16520), .blk b18520 45 (Col.cells t2520 ++ (Col.cells t5520 ++ ([.slice A14521 m14523 c14522, .slice A16521 m16523 c16522, .int .i64 1, .int .i64 0, .slice none 0 0]))), .blk b6520 27 (Col.cells t2520), .blk b7520 27 (Col.cells t5520), .vec As0_1 cs0_2 2 1 ms0_3 (ints ((ls0_4.set (Int.toNat 0) q_).set q_.toNat 0)), .vec As0_5 cs0_6 2 1 ms0_7 (ints ((ls0_8.set (Int.toNat 0) p).set p.toNat 0)), .blk b1 27 (Col.cells x)] [] w.drew := (hm.pick [0, 1, 2, 3, 4, 5, 6, 7] rfl (by decide)).pickφ [] rfl
        generalize w.drew = w at hm hS ⊢
        refine wph_take (i := 0) rfl (by kernel_rfl) (by kernel_rfl) (by kernel_rfl) (fun _ _ _ h => h) rfl ht hS (wanted_plain rfl) (fun w hm => ev_move ht rfl rfl) ?_
        intro a ht
        refine wph_take (i := 1) rfl (by kernel_rfl) (by kernel_rfl) (by kernel_rfl) (fun _ _ _ h => h) rfl ht hS (wanted_plain rfl) (fun w hm => ev_nilCheck ht rfl rfl) ?_
        intro a ht
        refine wph_take (i := 2) rfl (by kernel_rfl) (by kernel_rfl) (by kernel_rfl) (fun _ _ _ h => h) rfl ht hS (wanted_plain rfl) (fun w hm => ev_fieldAddr ht rfl rfl fo_45_2) ?_
        intro a ht
        refine wph_take (i := 3) rfl (by kernel_rfl) (by kernel_rfl) (by kernel_rfl) (fun _ _ _ h => h) rfl ht hS (wanted_plain rfl) (fun w hm => ev_load ht rfl rfl sc_43 (hm.blk_cell 2 rfl ((seg_col _ _ 138).trans ((seg_col _ _ 0).trans rfl)))) ?_
        intro a ht
        obtain ⟨t21020, et21020, H⟩ := bind_get H
        refine wph_take (i := 4) rfl (by kernel_rfl) (by kernel_rfl) (by kernel_rfl) (fun _ _ _ h => h) rfl ht hS (wanted_plain rfl) (fun w hm => ev_index_ints ht rfl rfl rfl so_43 (hm.vec_row 0 rfl) et21020) ?_
        intro a ht
        refine wph_take (i := 5) rfl (by kernel_rfl) (by kernel_rfl) (by kernel_rfl) (fun _ _ _ h => h) rfl ht hS (wanted_plain rfl) (fun w hm => ev_load ht rfl rfl sc_2 (RowAt.cell (hm.vec_row 0 rfl) (ints_get et21020) rfl)) ?_
        intro a ht
        refine wph_take (i := 6) rfl (by kernel_rfl) (by kernel_rfl) (by kernel_rfl) (fun _ _ _ h => h) rfl ht hS (wanted_plain rfl) (fun w hm => ev_move ht rfl rfl) ?_
        intro a ht
        refine wph_take (i := 7) rfl (by kernel_rfl) (by kernel_rfl) (by kernel_rfl) (fun _ _ _ h => h) rfl ht hS (wanted_plain rfl) (fun w hm => ev_nilCheck ht rfl rfl) ?_
        intro a ht
        refine wph_take (i := 8) rfl (by kernel_rfl) (by kernel_rfl) (by kernel_rfl) (fun _ _ _ h => h) rfl ht hS (wanted_plain rfl) (fun w hm => ev_fieldAddr ht rfl rfl fo_45_3) ?_
        intro a ht
        refine wph_take (i := 9) rfl (by kernel_rfl) (by kernel_rfl) (by kernel_rfl) (fun _ _ _ h => h) rfl ht hS (wanted_plain rfl) (fun w hm => ev_load ht rfl rfl sc_43 (hm.blk_cell 2 rfl ((seg_col _ _ 139).trans ((seg_col _ _ 1).trans rfl)))) ?_
        intro a ht
        obtain ⟨t21021, et21021, H⟩ := bind_get H
        refine wph_take (i := 10) rfl (by kernel_rfl) (by kernel_rfl) (by kernel_rfl) (fun _ _ _ h => h) rfl ht hS (wanted_plain rfl) (fun w hm => ev_index_ints ht rfl rfl rfl so_43 (hm.vec_row 1 rfl) et21021) ?_
        intro a ht
        refine wph_take (i := 11) rfl (by kernel_rfl) (by kernel_rfl) (by kernel_rfl) (fun _ _ _ h => h) rfl ht hS (wanted_plain rfl) (fun w hm => ev_load ht rfl rfl sc_2 (RowAt.cell (hm.vec_row 1 rfl) (ints_get et21021) rfl)) ?_
        intro a ht
        refine wph_take (i := 12) rfl (by kernel_rfl) (by kernel_rfl) (by kernel_rfl) (fun _ _ _ h => h) rfl ht hS (wanted_plain rfl) (fun w hm => ev_cmp ht rfl rfl rfl rfl) ?_
        intro a ht
        refine wph_done (by kernel_rfl) ?_
        refine then_normal ?_
        by_cases h21022 : t21020 = t21021
        · replace H := ite_yes h21022 H
          refine wpc_yes ht rfl (decide_eq_true h21022) ?_
          refine wpr ?_
          refine wpl rfl rfl ht (ev_move ht rfl rfl) ?_
          intro a ht
          refine wpl_build_ints (l := [0]) rfl rfl ht hm rfl und_43 zo_2 sz1_2 (by decide) rfl rfl rfl ?_
          intro A21023 a ht w hm
          replace hm : Ms _ _ _ _ (IntsAt A14521 c14522 m14523 t14520 :: _) w := hm.shutVec 1 rfl
          replace hm : Ms _ _ _ _ (IntsAt A16521 c16522 m16523 t16520 :: _) w := hm.shutVec 1 rfl
          replace hm : Ms _ _ _ _ (IntsAt A21023 1 1 ([0]) :: _) w := hm.shutVec 0 rfl
          replace hm : Ms _ _ _ _ (IntsAt none 0 0 ([] : List Int) :: _) w := hm.nilRow none 1
          obtain ⟨t21025, et21025, H⟩ := bind_get H
          have hcall := spec_l06Go.calls q4 _ _ b18520 A14521 c14522 m14523 A16521 c16522 m16523 none 0 0 A21023 1 1 t2520 t5520 t14520 t16520 1 0 ([]) ([0]) 1 _ ((hm.pick (own' := [.blk b18520 45 (Col.cells t2520 ++ (Col.cells t5520 ++ ([.slice A14521 m14523 c14522, .slice A16521 m16523 c16522, .int .i64 1, .int .i64 0, .slice none 0 0])))] ++ [.blk b6520 27 (Col.cells t2520), .blk b7520 27 (Col.cells t5520), .vec As0_1 cs0_2 2 1 ms0_3 (ints ((ls0_4.set (Int.toNat 0) q_).set q_.toNat 0)), .vec As0_5 cs0_6 2 1 ms0_7 (ints ((ls0_8.set (Int.toNat 0) p).set p.toNat 0)), .blk b1 27 (Col.cells x)]) [0, 1, 2, 3, 4, 5] rfl (by decide)).give (passed := [.blk b18520 45 (Col.cells t2520 ++ (Col.cells t5520 ++ ([.slice A14521 m14523 c14522, .slice A16521 m16523 c16522, .int .i64 1, .int .i64 0, .slice none 0 0])))]) (rest := [.blk b6520 27 (Col.cells t2520), .blk b7520 27 (Col.cells t5520), .vec As0_1 cs0_2 2 1 ms0_3 (ints ((ls0_4.set (Int.toNat 0) q_).set q_.toNat 0)), .vec As0_5 cs0_6 2 1 ms0_7 (ints ((ls0_8.set (Int.toNat 0) p).set p.toNat 0)), .blk b1 27 (Col.cells x)]) (φp := [IntsAt A14521 c14522 m14523 t14520, IntsAt A16521 c16522 m16523 t16520, IntsAt none 0 0 ([] : List Int), IntsAt A21023 1 1 ([0])]) [3, 2, 0, 1] rfl) et21025
          refine wpl_call _ rfl rfl ht rfl rfl rfl rfl can_45 hcall ?_
          clear hcall
          rintro _ w ⟨A21026, c21027, m21028, A21029, c21030, m21031, A21032, c21033, m21034, rfl, hpost⟩ a ht
          replace hm := (hm.pick (own' := [.blk b18520 45 (Col.cells t2520 ++ (Col.cells t5520 ++ ([.slice A14521 m14523 c14522, .slice A16521 m16523 c16522, .int .i64 1, .int .i64 0, .slice none 0 0])))] ++ [.blk b6520 27 (Col.cells t2520), .blk b7520 27 (Col.cells t5520), .vec As0_1 cs0_2 2 1 ms0_3 (ints ((ls0_4.set (Int.toNat 0) q_).set q_.toNat 0)), .vec As0_5 cs0_6 2 1 ms0_7 (ints ((ls0_8.set (Int.toNat 0) p).set p.toNat 0)), .blk b1 27 (Col.cells x)]) [0, 1, 2, 3, 4, 5] rfl (by decide)).back hpost
          clear hpost
          refine wpList_nil ?_
          refine then_normal ?_
          refine wp_seq ?_
          refine wpr ?_
          refine wpl rfl rfl ht (ev_move ht rfl rfl) ?_
          intro a ht
          refine wpl rfl rfl ht (ev_nilCheck ht rfl rfl) ?_
          intro a ht
          refine wpl rfl rfl ht (ev_fieldAddr ht rfl rfl fo_45_5) ?_
          intro a ht
          refine wpl rfl rfl ht (ev_load ht rfl rfl sc_2 (hm.blk_cell 0 rfl ((seg_col _ _ 141).trans ((seg_col _ _ 3).trans rfl)))) ?_
          intro a ht
          refine wpl rfl rfl ht (ev_cmp ht rfl rfl rfl rfl) ?_
          intro a ht
          refine wpl rfl rfl ht (ev_assign ht rfl rfl) ?_
          intro a ht
          refine wpList_nil ?_
          refine then_normal ?_
          refine wp_ret ?_
          have hres := ht.res (P := Try.prog) (w := w) (rs := [.tmp 6]) (vs := [.bool (decide (t21025.2.2.2.2.2.1 > 0))]) (.tmp rfl .nil)
          obtain rfl := Option.some.inj H
          exact leave ht rfl hres ⟨rfl, ((hm.pick [] rfl (by decide)).pickφ [] rfl).post fun _ h => h⟩
        · replace H := ite_no h21022 H
          refine wpc_no ht rfl (decide_eq_false h21022) ?_
          refine wp_skip ?_
          refine then_normal ?_
          refine wp_seq ?_
          refine wpr ?_
          refine wpl rfl rfl ht (ev_move ht rfl rfl) ?_
          intro a ht
          refine wpl rfl rfl ht (ev_nilCheck ht rfl rfl) ?_
          intro a ht
          refine wpl rfl rfl ht (ev_fieldAddr ht rfl rfl fo_45_5) ?_
          intro a ht
          refine wpl rfl rfl ht (ev_load ht rfl rfl sc_2 (hm.blk_cell 2 rfl ((seg_col _ _ 141).trans ((seg_col _ _ 3).trans rfl)))) ?_
          intro a ht
          refine wpl rfl rfl ht (ev_cmp (r := false) ht rfl rfl rfl (by decide)) ?_
          intro a ht
          refine wpl rfl rfl ht (ev_assign ht rfl rfl) ?_
          intro a ht
          refine wpList_nil ?_
          refine then_normal ?_
          refine wp_ret ?_
          have hres := ht.res (P := Try.prog) (w := w) (rs := [.tmp 6]) (vs := [.bool false]) (.tmp rfl .nil)
          obtain rfl := Option.some.inj H
          exact leave ht rfl hres ⟨rfl, ((hm.pick [] rfl (by decide)).pickφ [] rfl).post fun _ h => h⟩

end Go.Proofs.Ytbgniopmmankdaa.G
