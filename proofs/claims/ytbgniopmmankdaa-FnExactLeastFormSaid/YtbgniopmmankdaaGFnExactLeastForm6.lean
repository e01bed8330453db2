/- What each Go function computes, as a Lean function, and the proof that it does: written by a program of this session (wip/gen), part 6. -/
import Derived.Test.YtbgniopmmankdaaGFnExactLeastForm5
namespace Go.Proofs.Ytbgniopmmankdaa.G
open Go Go.RowKit Go.Proofs.Ytbgniopmmankdaa.K
set_option linter.unusedVariables false
set_option linter.unusedSimpArgs false

/-! ### slices_Compare_byte_byte: function 32 (slices.Compare[[]byte,byte]) -/
def slices_Compare_byte_byte.l0 : Nat → List Int → List Int → Int → Option (Int)
  | 0, _, _, _ => none
  | q1 + 1, s1, s2, xs0_1 => if xs0_1 < (s1.length : Int) then ((getI s1 xs0_1).bind fun t3 => if xs0_1 ≥ (s2.length : Int) then (some 1) else ((getI s2 xs0_1).bind fun t5 => (cmp_Compare_byte.f t3 t5).bind fun t6 => if t6 ≠ 0 then (some t6) else (slices_Compare_byte_byte.l0 q1 s1 s2 (w64 (xs0_1 + 1))))) else (if (s1.length : Int) < (s2.length : Int) then (some (-1)) else (some 0))
def slices_Compare_byte_byte.f (k : Nat) (s1 : List Int) (s2 : List Int) : Option (Int) := slices_Compare_byte_byte.l0 k s1 s2 0
set_option maxRecDepth 100000 in
set_option maxHeartbeats 1000000 in
theorem slices_Compare_byte_byte.calls (k : Nat) (X : List Nat) (w0 : World) (A : Option Addr) (c : Nat) (m : Nat) (A2 : Option Addr) (c2 : Nat) (m2 : Nat) (s1 : List Int) (s2 : List Int) (r : Int)
    (hp : Pre X w0 [] [Bytes8At A c m s1, Bytes8At A2 c2 m2 s2]) (H : slices_Compare_byte_byte.f k s1 s2 = some r) :
    Calls Try.prog 32 [.slice A m c, .slice A2 m2 c2].toArray w0 (Ret fun v w => v = .int .i64 r ∧ Post X (fps []) w0 [] [] w) := by
  unfold slices_Compare_byte_byte.f at H
  refine enterM (n := 36) hp Try.func32 rfl rfl (Nat.le_of_ble_eq_true rfl) fun a w ht hm => ?_
  refine wp_seq ?_
  refine wpr ?_
  refine wpl rfl rfl ht (ev_assign ht rfl rfl) ?_
  intro a ht
  refine wpList_nil ?_
  refine then_normal ?_
  refine wp_seq ?_
  refine wp_seq ?_
  refine wpr ?_
  refine wpl rfl rfl ht (ev_move ht rfl rfl) ?_
  intro a ht
  refine wpl rfl rfl ht (ev_len_of8 ht rfl rfl und_57 (hm.fact (φ := Bytes8At A c m s1) 0 rfl)) ?_
  intro a ht
  refine wpl rfl rfl ht (ev_move ht rfl rfl) ?_
  intro a ht
  refine wpList_nil ?_
  refine then_normal ?_
  refine wp_block ?_
  refine wpLoop (fun q a w => ∃ (xs0_1 : Int), slices_Compare_byte_byte.l0 q s1 s2 xs0_1 = some r ∧ q ≤ k ∧ Tm 36 [(0, .slice A m c), (1, .slice A2 m2 c2), (4, .int .i64 0), (9, .slice A m c), (10, .int .i64 (s1.length : Int)), (11, .int .i64 xs0_1)] a ∧ Ms X (fps []) w0 [] [Bytes8At A c m s1, Bytes8At A2 c2 m2 s2] w) (k0 := k) ⟨0, H, Nat.le_refl _, ht.sub ⟨rfl, rfl, rfl, rfl, rfl, rfl, trivial⟩, (hm.pick [] rfl (by decide)).pickφ [0, 1] rfl⟩ ?_
  clear H ht hm
  intro q1 a w hJ
  obtain ⟨xs0_1, H, hqq1, ht, hm⟩ := hJ
  cases q1 with
  | zero => cases H
  | succ q1 =>
  rw [slices_Compare_byte_byte.l0] at H
  refine wp_seq ?_
  refine wpr ?_
  refine wpl rfl rfl ht (ev_cmp ht rfl rfl rfl rfl) ?_
  intro a ht
  refine wpList_nil ?_
  refine then_normal ?_
  refine wp_seq ?_
  by_cases h2 : xs0_1 < (s1.length : Int)
  · replace H := ite_yes h2 H
    refine wpc_yes ht rfl (decide_eq_true h2) ?_
    refine wp_skip ?_
    refine then_normal ?_
    refine wp_seq ?_
    refine wp_block ?_
    refine wp_seq ?_
    refine wpr ?_
    refine wpl rfl rfl ht (ev_move ht rfl rfl) ?_
    intro a ht
    obtain ⟨t3, et3, H⟩ := bind_get H
    refine wpl rfl rfl ht (ev_index_ints8 ht rfl rfl rfl so_57 (hm.fact (φ := Bytes8At A c m s1) 0 rfl) et3) ?_
    intro a ht
    refine wpl rfl rfl ht (ev_load ht rfl rfl sc_5 (RowAt.cell (hm.fact (φ := Bytes8At A c m s1) 0 rfl) (ints8_get et3) rfl)) ?_
    intro a ht
    refine wpl rfl rfl ht (ev_assign ht rfl rfl) ?_
    intro a ht
    refine wpl rfl rfl ht (ev_assign ht rfl rfl) ?_
    intro a ht
    refine wpList_nil ?_
    refine then_normal ?_
    refine wp_seq ?_
    refine wp_seq ?_
    refine wpr ?_
    refine wpl rfl rfl ht (ev_move ht rfl rfl) ?_
    intro a ht
    refine wpl rfl rfl ht (ev_move ht rfl rfl) ?_
    intro a ht
    refine wpl rfl rfl ht (ev_len_of8 ht rfl rfl und_57 (hm.fact (φ := Bytes8At A2 c2 m2 s2) 1 rfl)) ?_
    intro a ht
    refine wpl rfl rfl ht (ev_cmp ht rfl rfl rfl rfl) ?_
    intro a ht
    refine wpList_nil ?_
    refine then_normal ?_
    by_cases h4 : xs0_1 ≥ (s2.length : Int)
    · replace H := ite_yes h4 H
      refine wpc_yes ht rfl (decide_eq_true h4) ?_
      refine wp_seq ?_
      refine wpr ?_
      refine wpl rfl rfl ht (ev_assign ht rfl rfl) ?_
      intro a ht
      refine wpList_nil ?_
      refine then_normal ?_
      refine wp_ret ?_
      refine then_ret ?_
      refine blk_ret ?_
      refine then_ret ?_
      refine then_ret ?_
      refine blk_ret ?_
      refine then_ret ?_
      have hres := ht.res (P := Try.prog) (w := w) (rs := [.tmp 4]) (vs := [.int .i64 1]) (.tmp rfl .nil)
      obtain rfl := Option.some.inj H
      exact leave ht rfl hres ⟨rfl, ((hm.pick [] rfl (by decide)).pickφ [] rfl).post fun _ h => h⟩
    · replace H := ite_no h4 H
      refine wpc_no ht rfl (decide_eq_false h4) ?_
      refine wp_skip ?_
      refine then_normal ?_
      refine wp_seq ?_
      refine wpr ?_
      refine wpl rfl rfl ht (ev_move ht rfl rfl) ?_
      intro a ht
      refine wpl rfl rfl ht (ev_move ht rfl rfl) ?_
      intro a ht
      obtain ⟨t5, et5, H⟩ := bind_get H
      refine wpl rfl rfl ht (ev_index_ints8 ht rfl rfl rfl so_57 (hm.fact (φ := Bytes8At A2 c2 m2 s2) 1 rfl) et5) ?_
      intro a ht
      refine wpl rfl rfl ht (ev_load ht rfl rfl sc_5 (RowAt.cell (hm.fact (φ := Bytes8At A2 c2 m2 s2) 1 rfl) (ints8_get et5) rfl)) ?_
      intro a ht
      refine wpl rfl rfl ht (ev_assign ht rfl rfl) ?_
      intro a ht
      refine wpList_nil ?_
      refine then_normal ?_
      refine wp_seq ?_
      refine wpr ?_
      refine wpl rfl rfl ht (ev_move ht rfl rfl) ?_
      intro a ht
      refine wpl rfl rfl ht (ev_move ht rfl rfl) ?_
      intro a ht
      obtain ⟨t6, et6, H⟩ := bind_get H
      have hcall := cmp_Compare_byte.calls _ _ t3 t5 _ ((fun (hq : Ms _ _ _ ([] ++ []) _ _) => hq.lend (φp := []) (allRO_nil)) (hm.pick (own' := [] ++ []) [] rfl (by decide))) et6
      refine wpl_call _ rfl rfl ht rfl rfl rfl rfl can_58 hcall ?_
      clear hcall
      rintro _ w ⟨rfl, hpost⟩ a ht
      replace hm := (hm.pick (own' := [] ++ []) [] rfl (by decide)).backL hpost
      clear hpost
      refine wpl rfl rfl ht (ev_assign ht rfl rfl) ?_
      intro a ht
      refine wpList_nil ?_
      refine then_normal ?_
      refine wp_seq ?_
      refine wpr ?_
      refine wpl rfl rfl ht (ev_move ht rfl rfl) ?_
      intro a ht
      refine wpl rfl rfl ht (ev_cmp ht rfl rfl rfl rfl) ?_
      intro a ht
      refine wpList_nil ?_
      refine then_normal ?_
      by_cases h7 : t6 ≠ 0
      · replace H := ite_yes h7 H
        refine wpc_yes ht rfl (decide_eq_true h7) ?_
        refine wp_seq ?_
        refine wpr ?_
        refine wpl rfl rfl ht (ev_move ht rfl rfl) ?_
        intro a ht
        refine wpl rfl rfl ht (ev_assign ht rfl rfl) ?_
        intro a ht
        refine wpList_nil ?_
        refine then_normal ?_
        refine wp_ret ?_
        refine blk_ret ?_
        refine then_ret ?_
        refine then_ret ?_
        refine blk_ret ?_
        refine then_ret ?_
        have hres := ht.res (P := Try.prog) (w := w) (rs := [.tmp 4]) (vs := [.int .i64 t6]) (.tmp rfl .nil)
        obtain rfl := Option.some.inj H
        exact leave ht rfl hres ⟨rfl, ((hm.pick [] rfl (by decide)).pickφ [] rfl).post fun _ h => h⟩
      · replace H := ite_no h7 H
        refine wpc_no ht rfl (decide_eq_false h7) ?_
        refine wp_skip ?_
        refine blk_normal ?_
        refine then_normal ?_
        refine wpr ?_
        refine wpl rfl rfl ht (ev_arith ht rfl rfl rfl rfl) ?_
        intro a ht
        refine wpl rfl rfl ht (ev_move ht rfl rfl) ?_
        intro a ht
        refine wpList_nil ?_
        exact then_normal ⟨q1, by omega, (w64 (xs0_1 + 1)), H, by omega, ht.sub ⟨rfl, rfl, rfl, rfl, rfl, rfl, trivial⟩, (hm.pick [] rfl (by decide)).pickφ [0, 1] rfl⟩
  · replace H := ite_no h2 H
    refine wpc_no ht rfl (decide_eq_false h2) ?_
    refine wp_exit ?_
    refine then_exit ?_
    refine then_exit ?_
    refine blk_hit ?_
    refine then_normal ?_
    refine wp_seq ?_
    refine wp_seq ?_
    refine wpr ?_
    refine wpl rfl rfl ht (ev_move ht rfl rfl) ?_
    intro a ht
    refine wpl rfl rfl ht (ev_len_of8 ht rfl rfl und_57 (hm.fact (φ := Bytes8At A c m s1) 0 rfl)) ?_
    intro a ht
    refine wpl rfl rfl ht (ev_move ht rfl rfl) ?_
    intro a ht
    refine wpl rfl rfl ht (ev_len_of8 ht rfl rfl und_57 (hm.fact (φ := Bytes8At A2 c2 m2 s2) 1 rfl)) ?_
    intro a ht
    refine wpl rfl rfl ht (ev_cmp ht rfl rfl rfl rfl) ?_
    intro a ht
    refine wpList_nil ?_
    refine then_normal ?_
    by_cases h8 : (s1.length : Int) < (s2.length : Int)
    · replace H := ite_yes h8 H
      refine wpc_yes ht rfl (decide_eq_true h8) ?_
      refine wp_seq ?_
      refine wpr ?_
      refine wpl rfl rfl ht (ev_assign ht rfl rfl) ?_
      intro a ht
      refine wpList_nil ?_
      refine then_normal ?_
      refine wp_ret ?_
      refine then_ret ?_
      have hres := ht.res (P := Try.prog) (w := w) (rs := [.tmp 4]) (vs := [.int .i64 (-1)]) (.tmp rfl .nil)
      obtain rfl := Option.some.inj H
      exact leave ht rfl hres ⟨rfl, ((hm.pick [] rfl (by decide)).pickφ [] rfl).post fun _ h => h⟩
    · replace H := ite_no h8 H
      refine wpc_no ht rfl (decide_eq_false h8) ?_
      refine wp_skip ?_
      refine then_normal ?_
      refine wp_seq ?_
      refine wpr ?_
      refine wpl rfl rfl ht (ev_assign ht rfl rfl) ?_
      intro a ht
      refine wpList_nil ?_
      refine then_normal ?_
      refine wp_ret ?_
      have hres := ht.res (P := Try.prog) (w := w) (rs := [.tmp 4]) (vs := [.int .i64 0]) (.tmp rfl .nil)
      obtain rfl := Option.some.inj H
      exact leave ht rfl hres ⟨rfl, ((hm.pick [] rfl (by decide)).pickφ [] rfl).post fun _ h => h⟩

/-! ### impl_LeastForm: function 11 (loop.example/g01362/impl.LeastForm) -/
def impl_LeastForm.l0 : Nat → Col → List (List Int) → Col → Int → Option (Col × Int)
  | 0, _, _, _, _ => none
  | q13 + 1, x, t8, xs0_1, xs0_2 => if xs0_2 < (t8.length : Int) then ((getR t8 xs0_2).bind fun l15 => (impl_Colouring_renumbered.f q13 x l15).bind fun t20 => (slices_Compare_byte_byte.f q13 (colL t20) (colL xs0_1)).bind fun t4522 => if t4522 < 0 then (impl_LeastForm.l0 q13 x t8 t20 (w64 (xs0_2 + 1))) else (impl_LeastForm.l0 q13 x t8 xs0_1 (w64 (xs0_2 + 1)))) else (some (xs0_1, 0))
def impl_LeastForm.f (k : Nat) (x : Col) : Option (Col × Int) := (impl_Colouring_code__always.f k x).bind fun t3 => if t3 = 0 then (if x.p > 6 then (some (Col.zero, 3)) else ((impl_orders.f k x.p ([])).bind fun t8 => impl_LeastForm.l0 k x t8 x 0)) else (some (Col.zero, t3))
set_option maxRecDepth 100000 in
set_option maxHeartbeats 1000000 in
theorem impl_LeastForm.calls (k : Nat) (X : List Nat) (w0 : World)  (x : Col) (r : Col × Int)
    (hp : Pre X w0 [] []) (H : impl_LeastForm.f k x = some r) :
    Calls Try.prog 11 [.agg (Col.cells x).toArray].toArray w0 (Ret fun v w => v = .tuple [.agg (Col.cells r.1).toArray, .int .i64 r.2].toArray ∧ Post X (fps []) w0 [] [] w) := by
  unfold impl_LeastForm.f at H
  refine enterM (n := 41) hp Try.func11 rfl rfl (Nat.le_of_ble_eq_true rfl) fun a w ht hm => ?_
  refine wp_seq ?_
  refine wpr ?_
  refine wpl_box rfl rfl ht hm rfl rfl rfl ?_
  intro b1 a ht w hm
  refine wpl_alloc rfl rfl ht hm rfl zo_27 ?_
  intro b2 a ht w hm
  refine wpl rfl rfl ht (ev_assign ht rfl rfl) ?_
  intro a ht
  refine wpList_nil ?_
  refine then_normal ?_
  refine wp_seq ?_
  refine wpr ?_
  obtain ⟨t3, et3, H⟩ := bind_get H
  have hcall := impl_Colouring_code__always.calls k _ _ b1 x _ ((fun (hq : Ms _ _ _ ([.blk b1 27 (Col.cells x)] ++ [.blk b2 27 (Col.cells Col.zero)]) _ _) => hq.lend (φp := []) (allRO_nil)) (hm.pick (own' := [.blk b1 27 (Col.cells x)] ++ [.blk b2 27 (Col.cells Col.zero)]) [1, 0] rfl (by decide))) et3
  refine wpl_call _ rfl rfl ht rfl rfl rfl rfl can_23 hcall ?_
  clear hcall
  rintro _ w ⟨rfl, hpost⟩ a ht
  replace hm := (hm.pick (own' := [.blk b1 27 (Col.cells x)] ++ [.blk b2 27 (Col.cells Col.zero)]) [1, 0] rfl (by decide)).backL hpost
  clear hpost
  refine wpl rfl rfl ht (ev_assign ht rfl rfl) ?_
  intro a ht
  refine wpList_nil ?_
  refine then_normal ?_
  refine wp_seq ?_
  refine wp_seq ?_
  refine wpr ?_
  refine wpl rfl rfl ht (ev_move ht rfl rfl) ?_
  intro a ht
  refine wpl rfl rfl ht (ev_cmp ht rfl rfl rfl rfl) ?_
  intro a ht
  refine wpl rfl rfl ht (ev_move ht rfl rfl) ?_
  intro a ht
  by_cases h4 : t3 = 0
  · replace H := ite_yes h4 H
    refine wpl_yes rfl ht rfl ((decide_eq_true h4)) ?_
    refine wpl rfl rfl ht (ev_fieldAddr ht rfl rfl fo_27_0) ?_
    intro a ht
    refine wpl_yes rfl ht rfl ((decide_eq_true h4)) ?_
    refine wpl rfl rfl ht (ev_load ht rfl rfl sc_2 (hm.blk_cell 0 rfl rfl)) ?_
    intro a ht
    refine wpl_yes rfl ht rfl ((decide_eq_true h4)) ?_
    refine wpl rfl rfl ht (ev_cmp ht rfl rfl rfl rfl) ?_
    intro a ht
    refine wpl rfl rfl ht (ev_pick_yes ht rfl rfl (decide_eq_true h4) rfl) ?_
    intro a ht
    refine wpList_nil ?_
    refine then_normal ?_
    by_cases h5 : x.p > 6
    · replace H := ite_yes h5 H
      refine wpc_yes ht rfl (decide_eq_true h5) ?_
      refine wpr ?_
      refine wpl rfl rfl ht (ev_assign ht rfl rfl) ?_
      intro a ht
      refine wpList_nil ?_
      refine then_normal ?_
      refine wp_seq ?_
      refine wp_seq ?_
      refine wpr ?_
      refine wpl rfl rfl ht (ev_move ht rfl rfl) ?_
      intro a ht
      refine wpl rfl rfl ht (ev_cmp (r := true) ht rfl rfl rfl (by decide)) ?_
      intro a ht
      refine wpList_nil ?_
      refine then_normal ?_
      refine wpc_yes ht rfl rfl ?_
      refine wp_seq ?_
      refine wpr ?_
      refine wpl rfl rfl ht (ev_build (vs := Col.cells Col.zero) ht rfl bi_27 rfl rfl) ?_
      intro a ht
      refine wpl rfl rfl ht (ev_move ht rfl rfl) ?_
      intro a ht
      refine wpl_store_whole 1 rfl rfl ht hm rfl rfl rfl (szn_27.trans (by first | rw [Col.length_cells] | rfl)) rfl (by simp only [Col.length_cells]) (Col.cells_one _) ?_
      intro a ht w hm
      refine wpl rfl rfl ht (ev_assign ht rfl rfl) ?_
      intro a ht
      refine wpList_nil ?_
      refine then_normal ?_
      refine wp_ret ?_
      refine then_ret ?_
      have hres := ht.res (P := Try.prog) (w := w) (rs := [.cell 2 27, .tmp 3]) (vs := [.agg (Col.cells Col.zero).toArray, .int .i64 3]) (.agg rfl (ag_27.trans (by first | rw [Col.length_cells] | rfl)) (hm.blk_all 1 rfl) (.tmp rfl .nil))
      obtain rfl := Option.some.inj H
      exact leave ht rfl hres ⟨rfl, ((hm.pick [] rfl (by decide)).pickφ [] rfl).post fun _ h => h⟩
    · replace H := ite_no h5 H
      refine wpc_no ht rfl (decide_eq_false h5) ?_
      refine wp_skip ?_
      refine then_normal ?_
      refine wp_seq ?_
      refine wp_seq ?_
      refine wpr ?_
      refine wpl rfl rfl ht (ev_move ht rfl rfl) ?_
      intro a ht
      refine wpl rfl rfl ht (ev_cmp ht rfl rfl rfl rfl) ?_
      intro a ht
      refine wpList_nil ?_
      refine then_normal ?_
      refine wpc_no ht rfl (decide_eq_false (by first | exact h4 | (intro hh; exact h4 hh) | omega)) ?_
      refine wp_skip ?_
      refine then_normal ?_
      refine wp_seq ?_
      refine wpr ?_
      refine wpl rfl rfl ht (ev_load_agg ht rfl rfl (ag_27.trans (by first | rw [Col.length_cells] | rfl)) (hm.blk_all 0 rfl)) ?_
      intro a ht
      refine wpl_alloc rfl rfl ht hm rfl zo_27 ?_
      intro b6 a ht w hm
      refine wpl_store_whole 0 rfl rfl ht hm rfl rfl rfl (szn_27.trans (by first | rw [Col.length_cells] | rfl)) rfl (by simp only [Col.length_cells]) (Col.cells_one _) ?_
      intro a ht w hm
      refine wpList_nil ?_
      refine then_normal ?_
      refine wp_seq ?_
      refine wp_seq ?_
      refine wpr ?_
      refine wpl rfl rfl ht (ev_fieldAddr ht rfl rfl fo_27_0) ?_
      intro a ht
      refine wpl rfl rfl ht (ev_load ht rfl rfl sc_2 (hm.blk_cell 1 rfl rfl)) ?_
      intro a ht
      replace hm : Ms _ _ _ _ (IntsAt none 0 0 ([] : List Int) :: _) w := hm.nilRow none 1
      obtain ⟨t8, et8, H⟩ := bind_get H
      have hcall := impl_orders.calls k _ _ none 0 0 x.p ([]) _ ((hm.pick (own' := [] ++ [.blk b6 27 (Col.cells x), .blk b1 27 (Col.cells x), .blk b2 27 (Col.cells Col.zero)]) [0, 1, 2] rfl (by decide)).give (passed := []) (rest := [.blk b6 27 (Col.cells x), .blk b1 27 (Col.cells x), .blk b2 27 (Col.cells Col.zero)]) (φp := [IntsAt none 0 0 ([] : List Int)]) [0] rfl) et8
      refine wpl_call _ rfl rfl ht rfl rfl rfl rfl can_30 hcall ?_
      clear hcall
      rintro _ w ⟨A9, c10, m11, vs12, rfl, hpost⟩ a ht
      replace hm := (hm.pick (own' := [] ++ [.blk b6 27 (Col.cells x), .blk b1 27 (Col.cells x), .blk b2 27 (Col.cells Col.zero)]) [0, 1, 2] rfl (by decide)).back hpost
      clear hpost
      refine wpl rfl rfl ht (ev_len_rows ht rfl rfl und_35 (hm.rowsOf 0 0 rfl rfl)) ?_
      intro a ht
      refine wpl rfl rfl ht (ev_move ht rfl rfl) ?_
      intro a ht
      refine wpList_nil ?_
      refine then_normal ?_
      refine wp_block ?_
      refine wpLoop (fun q a w => ∃ (xs0_1 : Col) (xs0_2 : Int), impl_LeastForm.l0 q x t8 xs0_1 xs0_2 = some r ∧ q ≤ k ∧ Tm 41 [(1, .pointer (some ⟨b1, 0, none⟩)), (2, .pointer (some ⟨b2, 0, none⟩)), (3, .int .i64 0), (5, .pointer (some ⟨b6, 0, none⟩)), (24, .slice A9 m11 c10), (25, .int .i64 (t8.length : Int)), (26, .int .i64 xs0_2)] a ∧ Ms X (fps []) w0 [.vec A9 c10 43 1 m11 vs12, .blk b6 27 (Col.cells xs0_1), .blk b1 27 (Col.cells x), .blk b2 27 (Col.cells Col.zero)] [AllInts vs12 t8] w) (k0 := k) ⟨x, 0, H, Nat.le_refl _, ht.sub ⟨rfl, rfl, rfl, rfl, rfl, rfl, rfl, trivial⟩, (hm.pick [0, 1, 2, 3] rfl (by decide)).pickφ [0] rfl⟩ ?_
      clear H ht hm
      intro q13 a w hJ
      obtain ⟨xs0_1, xs0_2, H, hqq13, ht, hm⟩ := hJ
      cases q13 with
      | zero => cases H
      | succ q13 =>
      rw [impl_LeastForm.l0] at H
      refine wp_seq ?_
      refine wpr ?_
      refine wpl rfl rfl ht (ev_cmp ht rfl rfl rfl rfl) ?_
      intro a ht
      refine wpList_nil ?_
      refine then_normal ?_
      refine wp_seq ?_
      by_cases h14 : xs0_2 < (t8.length : Int)
      · replace H := ite_yes h14 H
        refine wpc_yes ht rfl (decide_eq_true h14) ?_
        refine wp_skip ?_
        refine then_normal ?_
        refine wp_seq ?_
        refine wp_block ?_
        refine wp_seq ?_
        refine wpr ?_
        obtain ⟨l15, el15, H⟩ := bind_get H
        refine wpl rfl rfl ht (ev_index_rows ht rfl rfl rfl so_35 (hm.rowsOf 0 0 rfl rfl) el15) ?_
        intro a ht
        obtain ⟨A16, c17, m18, hv19, hI⟩ := rowsAt_get (hm.rowsOf 0 0 rfl rfl) el15
        refine wpl rfl rfl ht (ev_load ht rfl rfl sc_43 (RowsAt.cell (hm.rowsOf 0 0 rfl rfl) hv19)) ?_
        intro a ht
        replace hm : Ms _ _ _ _ (IntsAt A16 c17 m18 l15 :: _) w := hm.addφ ((hm.ro 0 rfl).mono fun w h => allInts_at h hv19 el15)
        clear hI
        refine wpl rfl rfl ht (ev_assign ht rfl rfl) ?_
        intro a ht
        refine wpList_nil ?_
        refine then_normal ?_
        refine wp_seq ?_
        refine wpr ?_
        refine wpl rfl rfl ht (ev_move ht rfl rfl) ?_
        intro a ht
        obtain ⟨t20, et20, H⟩ := bind_get H
        have hcall := impl_Colouring_renumbered.calls q13 _ _ b1 A16 c17 m18 x l15 _ ((fun (hq : Ms _ _ _ ([.blk b1 27 (Col.cells x)] ++ [.vec A9 c10 43 1 m11 vs12, .blk b6 27 (Col.cells xs0_1), .blk b2 27 (Col.cells Col.zero)]) _ _) => hq.lend (φp := [IntsAt A16 c17 m18 l15]) (allRO_cons (hq.lendFact 0 rfl) (allRO_nil))) (hm.pick (own' := [.blk b1 27 (Col.cells x)] ++ [.vec A9 c10 43 1 m11 vs12, .blk b6 27 (Col.cells xs0_1), .blk b2 27 (Col.cells Col.zero)]) [2, 0, 1, 3] rfl (by decide))) et20
        refine wpl_call _ rfl rfl ht rfl rfl rfl rfl can_31 hcall ?_
        clear hcall
        rintro _ w ⟨rfl, hpost⟩ a ht
        replace hm := (hm.pick (own' := [.blk b1 27 (Col.cells x)] ++ [.vec A9 c10 43 1 m11 vs12, .blk b6 27 (Col.cells xs0_1), .blk b2 27 (Col.cells Col.zero)]) [2, 0, 1, 3] rfl (by decide)).backL hpost
        clear hpost
        refine wpl_alloc rfl rfl ht hm rfl zo_27 ?_
        intro b21 a ht w hm
        refine wpl_store_whole 0 rfl rfl ht hm rfl rfl rfl (szn_27.trans (by first | rw [Col.length_cells] | rfl)) rfl (by simp only [Col.length_cells]) (Col.cells_one _) ?_
        intro a ht w hm
        refine wpList_nil ?_
        refine then_normal ?_
        refine wp_seq ?_
        refine wph_begin (fun w => Ms X (fps []) w0 [.blk b21 27 (Col.cells t20), .blk b1 27 (Col.cells x), .vec A9 c10 43 1 m11 vs12, .blk b6 27 (Col.cells xs0_1), .blk b2 27 (Col.cells Col.zero)] [IntsAt A16 c17 m18 l15, AllInts vs12 t8] w) mixed ?_
        replace hm := hm.drew
        have hS : Ms X (fps []) w0 [.blk b21 27 (Col.cells t20), .blk b1 27 (Col.cells x), .vec A9 c10 43 1 m11 vs12, .blk b6 27 (Col.cells xs0_1), .blk b2 27 (Col.cells Col.zero)] [IntsAt A16 c17 m18 l15, AllInts vs12 t8] w.drew := (hm.pick [0, 1, 2, 3, 4] rfl (by decide)).pickφ [0, 1] rfl
        generalize w.drew = w at hm hS ⊢
        refine wph_take (i := 0) rfl (by kernel_rfl) (by kernel_rfl) (by kernel_rfl) (fun _ _ _ h => h) rfl ht hS (wanted_plain rfl) (fun w hm => ev_fieldAddr ht rfl rfl fo_27_2) ?_
        intro a ht
        refine wph_take (i := 2) rfl (by kernel_rfl) (by kernel_rfl) (by kernel_rfl) (fun _ _ _ h => h) rfl ht hS (wanted_plain rfl) (fun w hm => ev_fieldAddr ht rfl rfl fo_27_2) ?_
        intro a ht
        refine wph_two (i := 1) (j := 3) (by kernel_rfl) ?_ ?_ 
        · refine wph_step rfl ?_
          refine wpl rfl rfl ht (ev_slice_arr ht rfl rfl und_22 sz1_5) ?_
          intro a ht
          have hS : Ms X (fps []) w0 [.blk b21 27 (Col.cells t20), .blk b1 27 (Col.cells x), .vec A9 c10 43 1 m11 vs12, .blk b6 27 (Col.cells xs0_1), .blk b2 27 (Col.cells Col.zero)] [IntsAt A16 c17 m18 l15, AllInts vs12 t8] w := (hm.pick [0, 1, 2, 3, 4] rfl (by decide)).pickφ [0, 1] rfl
          refine wpList_nil (qn ⟨hS, ?_⟩)
          refine wph_one (i := 3) (by kernel_rfl) (wph_step rfl ?_)
          refine wpl rfl rfl ht (ev_slice_arr ht rfl rfl und_22 sz1_5) ?_
          intro a ht
          have hS : Ms X (fps []) w0 [.blk b21 27 (Col.cells t20), .blk b1 27 (Col.cells x), .vec A9 c10 43 1 m11 vs12, .blk b6 27 (Col.cells xs0_1), .blk b2 27 (Col.cells Col.zero)] [IntsAt A16 c17 m18 l15, AllInts vs12 t8] w := (hm.pick [0, 1, 2, 3, 4] rfl (by decide)).pickφ [0, 1] rfl
          refine wpList_nil (qn ⟨hS, ?_⟩)
          refine wph_one (i := 4) (by kernel_rfl) (wph_step rfl ?_)
          obtain ⟨t4522, et4522, H⟩ := bind_get H
          have hcall := slices_Compare_byte_byte.calls q13 _ _ (some ⟨b21, 0 + 2, none⟩) 136 136 (some ⟨b6, 0 + 2, none⟩) 136 136 (colL t20) (colL xs0_1) _ ((fun (hq : Ms _ _ _ ([] ++ [.blk b21 27 (Col.cells t20), .blk b1 27 (Col.cells x), .vec A9 c10 43 1 m11 vs12, .blk b6 27 (Col.cells xs0_1), .blk b2 27 (Col.cells Col.zero)]) _ _) => hq.lend (φp := [Bytes8At (some ⟨b21, 2, none⟩) 136 136 (colL t20), Bytes8At (some ⟨b6, 2, none⟩) 136 136 (colL xs0_1)]) (allRO_cons (hq.lendCol 0 rfl) (allRO_cons (hq.lendCol 3 rfl) (allRO_nil)))) (hm.pick (own' := [] ++ [.blk b21 27 (Col.cells t20), .blk b1 27 (Col.cells x), .vec A9 c10 43 1 m11 vs12, .blk b6 27 (Col.cells xs0_1), .blk b2 27 (Col.cells Col.zero)]) [0, 1, 2, 3, 4] rfl (by decide))) et4522
          refine wpl_call _ rfl rfl ht rfl rfl rfl rfl can_32 hcall ?_
          clear hcall
          rintro _ w ⟨rfl, hpost⟩ a ht
          replace hm := (hm.pick (own' := [] ++ [.blk b21 27 (Col.cells t20), .blk b1 27 (Col.cells x), .vec A9 c10 43 1 m11 vs12, .blk b6 27 (Col.cells xs0_1), .blk b2 27 (Col.cells Col.zero)]) [0, 1, 2, 3, 4] rfl (by decide)).backL hpost
          clear hpost
          have hS : Ms X (fps []) w0 [.blk b21 27 (Col.cells t20), .blk b1 27 (Col.cells x), .vec A9 c10 43 1 m11 vs12, .blk b6 27 (Col.cells xs0_1), .blk b2 27 (Col.cells Col.zero)] [IntsAt A16 c17 m18 l15, AllInts vs12 t8] w := (hm.pick [0, 1, 2, 3, 4] rfl (by decide)).pickφ [0, 1] rfl
          refine wpList_nil (qn ⟨hS, ?_⟩)
          refine wph_take (i := 5) rfl (by kernel_rfl) (by kernel_rfl) (by kernel_rfl) (fun _ _ _ h => h) rfl ht hS (wanted_plain rfl) (fun w hm => ev_cmp ht rfl rfl rfl rfl) ?_
          intro a ht
          refine wph_done (by kernel_rfl) ?_
          refine then_normal ?_
          by_cases h7022 : t4522 < 0
          · replace H := ite_yes h7022 H
            refine wpc_yes ht rfl (decide_eq_true h7022) ?_
            refine wpr ?_
            refine wpl rfl rfl ht (ev_load_agg ht rfl rfl (ag_27.trans (by first | rw [Col.length_cells] | rfl)) (hm.blk_all 0 rfl)) ?_
            intro a ht
            refine wpl_store_whole 3 rfl rfl ht hm rfl rfl rfl (szn_27.trans (by first | rw [Col.length_cells] | rfl)) rfl (by simp only [Col.length_cells]) (Col.cells_one _) ?_
            intro a ht w hm
            refine wpList_nil ?_
            refine blk_normal ?_
            refine then_normal ?_
            refine wpr ?_
            refine wpl rfl rfl ht (ev_arith ht rfl rfl rfl rfl) ?_
            intro a ht
            refine wpl rfl rfl ht (ev_move ht rfl rfl) ?_
            intro a ht
            refine wpList_nil ?_
            exact then_normal ⟨q13, by omega, t20, (w64 (xs0_2 + 1)), H, by omega, ht.sub ⟨rfl, rfl, rfl, rfl, rfl, rfl, rfl, trivial⟩, (hm.pick [2, 3, 1, 4] rfl (by decide)).pickφ [1] rfl⟩
          · replace H := ite_no h7022 H
            refine wpc_no ht rfl (decide_eq_false h7022) ?_
            refine wp_skip ?_
            refine blk_normal ?_
            refine then_normal ?_
            refine wpr ?_
            refine wpl rfl rfl ht (ev_arith ht rfl rfl rfl rfl) ?_
            intro a ht
            refine wpl rfl rfl ht (ev_move ht rfl rfl) ?_
            intro a ht
            refine wpList_nil ?_
            exact then_normal ⟨q13, by omega, xs0_1, (w64 (xs0_2 + 1)), H, by omega, ht.sub ⟨rfl, rfl, rfl, rfl, rfl, rfl, rfl, trivial⟩, (hm.pick [2, 3, 1, 4] rfl (by decide)).pickφ [1] rfl⟩
        · refine wph_step rfl ?_
          refine wpl rfl rfl ht (ev_slice_arr ht rfl rfl und_22 sz1_5) ?_
          intro a ht
          have hS : Ms X (fps []) w0 [.blk b21 27 (Col.cells t20), .blk b1 27 (Col.cells x), .vec A9 c10 43 1 m11 vs12, .blk b6 27 (Col.cells xs0_1), .blk b2 27 (Col.cells Col.zero)] [IntsAt A16 c17 m18 l15, AllInts vs12 t8] w := (hm.pick [0, 1, 2, 3, 4] rfl (by decide)).pickφ [0, 1] rfl
          refine wpList_nil (qn ⟨hS, ?_⟩)
          refine wph_one (i := 1) (by kernel_rfl) (wph_step rfl ?_)
          refine wpl rfl rfl ht (ev_slice_arr ht rfl rfl und_22 sz1_5) ?_
          intro a ht
          have hS : Ms X (fps []) w0 [.blk b21 27 (Col.cells t20), .blk b1 27 (Col.cells x), .vec A9 c10 43 1 m11 vs12, .blk b6 27 (Col.cells xs0_1), .blk b2 27 (Col.cells Col.zero)] [IntsAt A16 c17 m18 l15, AllInts vs12 t8] w := (hm.pick [0, 1, 2, 3, 4] rfl (by decide)).pickφ [0, 1] rfl
          refine wpList_nil (qn ⟨hS, ?_⟩)
          refine wph_one (i := 4) (by kernel_rfl) (wph_step rfl ?_)
          obtain ⟨t4522, et4522, H⟩ := bind_get H
          have hcall := slices_Compare_byte_byte.calls q13 _ _ (some ⟨b21, 0 + 2, none⟩) 136 136 (some ⟨b6, 0 + 2, none⟩) 136 136 (colL t20) (colL xs0_1) _ ((fun (hq : Ms _ _ _ ([] ++ [.blk b21 27 (Col.cells t20), .blk b1 27 (Col.cells x), .vec A9 c10 43 1 m11 vs12, .blk b6 27 (Col.cells xs0_1), .blk b2 27 (Col.cells Col.zero)]) _ _) => hq.lend (φp := [Bytes8At (some ⟨b21, 2, none⟩) 136 136 (colL t20), Bytes8At (some ⟨b6, 2, none⟩) 136 136 (colL xs0_1)]) (allRO_cons (hq.lendCol 0 rfl) (allRO_cons (hq.lendCol 3 rfl) (allRO_nil)))) (hm.pick (own' := [] ++ [.blk b21 27 (Col.cells t20), .blk b1 27 (Col.cells x), .vec A9 c10 43 1 m11 vs12, .blk b6 27 (Col.cells xs0_1), .blk b2 27 (Col.cells Col.zero)]) [0, 1, 2, 3, 4] rfl (by decide))) et4522
          refine wpl_call _ rfl rfl ht rfl rfl rfl rfl can_32 hcall ?_
          clear hcall
          rintro _ w ⟨rfl, hpost⟩ a ht
          replace hm := (hm.pick (own' := [] ++ [.blk b21 27 (Col.cells t20), .blk b1 27 (Col.cells x), .vec A9 c10 43 1 m11 vs12, .blk b6 27 (Col.cells xs0_1), .blk b2 27 (Col.cells Col.zero)]) [0, 1, 2, 3, 4] rfl (by decide)).backL hpost
          clear hpost
          have hS : Ms X (fps []) w0 [.blk b21 27 (Col.cells t20), .blk b1 27 (Col.cells x), .vec A9 c10 43 1 m11 vs12, .blk b6 27 (Col.cells xs0_1), .blk b2 27 (Col.cells Col.zero)] [IntsAt A16 c17 m18 l15, AllInts vs12 t8] w := (hm.pick [0, 1, 2, 3, 4] rfl (by decide)).pickφ [0, 1] rfl
          refine wpList_nil (qn ⟨hS, ?_⟩)
          refine wph_take (i := 5) rfl (by kernel_rfl) (by kernel_rfl) (by kernel_rfl) (fun _ _ _ h => h) rfl ht hS (wanted_plain rfl) (fun w hm => ev_cmp ht rfl rfl rfl rfl) ?_
          intro a ht
          refine wph_done (by kernel_rfl) ?_
          refine then_normal ?_
          by_cases h7022 : t4522 < 0
          · replace H := ite_yes h7022 H
            refine wpc_yes ht rfl (decide_eq_true h7022) ?_
            refine wpr ?_
            refine wpl rfl rfl ht (ev_load_agg ht rfl rfl (ag_27.trans (by first | rw [Col.length_cells] | rfl)) (hm.blk_all 0 rfl)) ?_
            intro a ht
            refine wpl_store_whole 3 rfl rfl ht hm rfl rfl rfl (szn_27.trans (by first | rw [Col.length_cells] | rfl)) rfl (by simp only [Col.length_cells]) (Col.cells_one _) ?_
            intro a ht w hm
            refine wpList_nil ?_
            refine blk_normal ?_
            refine then_normal ?_
            refine wpr ?_
            refine wpl rfl rfl ht (ev_arith ht rfl rfl rfl rfl) ?_
            intro a ht
            refine wpl rfl rfl ht (ev_move ht rfl rfl) ?_
            intro a ht
            refine wpList_nil ?_
            exact then_normal ⟨q13, by omega, t20, (w64 (xs0_2 + 1)), H, by omega, ht.sub ⟨rfl, rfl, rfl, rfl, rfl, rfl, rfl, trivial⟩, (hm.pick [2, 3, 1, 4] rfl (by decide)).pickφ [1] rfl⟩
          · replace H := ite_no h7022 H
            refine wpc_no ht rfl (decide_eq_false h7022) ?_
            refine wp_skip ?_
            refine blk_normal ?_
            refine then_normal ?_
            refine wpr ?_
            refine wpl rfl rfl ht (ev_arith ht rfl rfl rfl rfl) ?_
            intro a ht
            refine wpl rfl rfl ht (ev_move ht rfl rfl) ?_
            intro a ht
            refine wpList_nil ?_
            exact then_normal ⟨q13, by omega, xs0_1, (w64 (xs0_2 + 1)), H, by omega, ht.sub ⟨rfl, rfl, rfl, rfl, rfl, rfl, rfl, trivial⟩, (hm.pick [2, 3, 1, 4] rfl (by decide)).pickφ [1] rfl⟩
      · replace H := ite_no h14 H
        refine wpc_no ht rfl (decide_eq_false h14) ?_
        refine wp_exit ?_
        refine then_exit ?_
        refine then_exit ?_
        refine blk_hit ?_
        refine then_normal ?_
        refine wp_seq ?_
        refine wpr ?_
        refine wpl rfl rfl ht (ev_load_agg ht rfl rfl (ag_27.trans (by first | rw [Col.length_cells] | rfl)) (hm.blk_all 1 rfl)) ?_
        intro a ht
        refine wpl_store_whole 3 rfl rfl ht hm rfl rfl rfl (szn_27.trans (by first | rw [Col.length_cells] | rfl)) rfl (by simp only [Col.length_cells]) (Col.cells_one _) ?_
        intro a ht w hm
        refine wpl rfl rfl ht (ev_assign ht rfl rfl) ?_
        intro a ht
        refine wpList_nil ?_
        refine then_normal ?_
        refine wp_ret ?_
        have hres := ht.res (P := Try.prog) (w := w) (rs := [.cell 2 27, .tmp 3]) (vs := [.agg (Col.cells xs0_1).toArray, .int .i64 0]) (.agg rfl (ag_27.trans (by first | rw [Col.length_cells] | rfl)) (hm.blk_all 3 rfl) (.tmp rfl .nil))
        obtain rfl := Option.some.inj H
        exact leave ht rfl hres ⟨rfl, ((hm.pick [] rfl (by decide)).pickφ [] rfl).post fun _ h => h⟩
  · replace H := ite_no h4 H
    refine wpl_no rfl rfl ht rfl (by rw [(decide_eq_false h4)]; decide) ?_
    intro a ht
    refine wpl_no rfl rfl ht rfl (by rw [(decide_eq_false h4)]; decide) ?_
    intro a ht
    refine wpl_no rfl rfl ht rfl (by rw [(decide_eq_false h4)]; decide) ?_
    intro a ht
    refine wpl rfl rfl ht (ev_pick_no ht rfl rfl (decide_eq_false h4) rfl) ?_
    intro a ht
    refine wpList_nil ?_
    refine then_normal ?_
    refine wpc_no ht rfl rfl ?_
    refine wp_skip ?_
    refine then_normal ?_
    refine wp_seq ?_
    refine wp_seq ?_
    refine wpr ?_
    refine wpl rfl rfl ht (ev_move ht rfl rfl) ?_
    intro a ht
    refine wpl rfl rfl ht (ev_cmp ht rfl rfl rfl rfl) ?_
    intro a ht
    refine wpList_nil ?_
    refine then_normal ?_
    refine wpc_yes ht rfl (decide_eq_true (by first | exact h4 | (intro hh; exact h4 hh) | omega)) ?_
    refine wp_seq ?_
    refine wpr ?_
    refine wpl rfl rfl ht (ev_build (vs := Col.cells Col.zero) ht rfl bi_27 rfl rfl) ?_
    intro a ht
    refine wpl rfl rfl ht (ev_move ht rfl rfl) ?_
    intro a ht
    refine wpl_store_whole 1 rfl rfl ht hm rfl rfl rfl (szn_27.trans (by first | rw [Col.length_cells] | rfl)) rfl (by simp only [Col.length_cells]) (Col.cells_one _) ?_
    intro a ht w hm
    refine wpl rfl rfl ht (ev_assign ht rfl rfl) ?_
    intro a ht
    refine wpList_nil ?_
    refine then_normal ?_
    refine wp_ret ?_
    refine then_ret ?_
    have hres := ht.res (P := Try.prog) (w := w) (rs := [.cell 2 27, .tmp 3]) (vs := [.agg (Col.cells Col.zero).toArray, .int .i64 t3]) (.agg rfl (ag_27.trans (by first | rw [Col.length_cells] | rfl)) (hm.blk_all 1 rfl) (.tmp rfl .nil))
    obtain rfl := Option.some.inj H
    exact leave ht rfl hres ⟨rfl, ((hm.pick [] rfl (by decide)).pickφ [] rfl).post fun _ h => h⟩

/-! ### laws_eqByteA136: function 33 (loop.example/g01362/laws.eqByteA136) -/
def laws_eqByteA136.l0 : Nat → (Nat → Int) → (Nat → Int) → Int → Option (Bool)
  | 0, _, _, _ => none
  | q3 + 1, a_, b, xs0_1 => if xs0_1 < 136 then ((getB 136 a_ xs0_1).bind fun t5 => (getB 136 b xs0_1).bind fun t6 => if t5 ≠ t6 then (some false) else (laws_eqByteA136.l0 q3 a_ b (w64 (xs0_1 + 1)))) else (some true)
def laws_eqByteA136.f (k : Nat) (a_ : Nat → Int) (b : Nat → Int) : Option (Bool) := laws_eqByteA136.l0 k a_ b 0
set_option maxRecDepth 100000 in
set_option maxHeartbeats 1000000 in
theorem laws_eqByteA136.calls (k : Nat) (X : List Nat) (w0 : World)  (a_ : Nat → Int) (b : Nat → Int) (r : Bool)
    (hp : Pre X w0 [] []) (H : laws_eqByteA136.f k a_ b = some r) :
    Calls Try.prog 33 [.agg (bytesC 136 a_).toArray, .agg (bytesC 136 b).toArray].toArray w0 (Ret fun v w => v = .bool r ∧ Post X (fps []) w0 [] [] w) := by
  unfold laws_eqByteA136.f at H
  refine enterM (n := 17) hp Try.func33 rfl rfl (Nat.le_of_ble_eq_true rfl) fun a w ht hm => ?_
  refine wp_seq ?_
  refine wpr ?_
  refine wpl_box rfl rfl ht hm rfl rfl rfl ?_
  intro b1 a ht w hm
  refine wpl_box rfl rfl ht hm rfl rfl rfl ?_
  intro b2 a ht w hm
  refine wpl rfl rfl ht (ev_assign ht rfl rfl) ?_
  intro a ht
  refine wpList_nil ?_
  refine then_normal ?_
  refine wp_seq ?_
  refine wp_seq ?_
  refine wpr ?_
  refine wpl rfl rfl ht (ev_assign ht rfl rfl) ?_
  intro a ht
  refine wpList_nil ?_
  refine then_normal ?_
  refine wp_block ?_
  refine wpLoop (fun q a w => ∃ (xs0_1 : Int), laws_eqByteA136.l0 q a_ b xs0_1 = some r ∧ q ≤ k ∧ Tm 17 [(2, .pointer (some ⟨b1, 0, none⟩)), (3, .pointer (some ⟨b2, 0, none⟩)), (4, .bool false), (5, .int .i64 xs0_1)] a ∧ Ms X (fps []) w0 [.blk b2 22 (bytesC 136 b), .blk b1 22 (bytesC 136 a_)] [] w) (k0 := k) ⟨0, H, Nat.le_refl _, ht.sub ⟨rfl, rfl, rfl, rfl, trivial⟩, (hm.pick [0, 1] rfl (by decide)).pickφ [] rfl⟩ ?_
  clear H ht hm
  intro q3 a w hJ
  obtain ⟨xs0_1, H, hqq3, ht, hm⟩ := hJ
  cases q3 with
  | zero => cases H
  | succ q3 =>
  rw [laws_eqByteA136.l0] at H
  refine wp_seq ?_
  refine wp_seq ?_
  refine wpr ?_
  refine wpl rfl rfl ht (ev_move ht rfl rfl) ?_
  intro a ht
  refine wpl rfl rfl ht (ev_cmp ht rfl rfl rfl rfl) ?_
  intro a ht
  refine wpList_nil ?_
  refine then_normal ?_
  by_cases h4 : xs0_1 < 136
  · replace H := ite_yes h4 H
    refine wpc_yes ht rfl (decide_eq_true h4) ?_
    refine wp_skip ?_
    refine then_normal ?_
    refine wp_seq ?_
    refine wp_block ?_
    refine wp_seq ?_
    refine wph_begin (fun w => Ms X (fps []) w0 [.blk b2 22 (bytesC 136 b), .blk b1 22 (bytesC 136 a_)] [] w) mixed ?_
    replace hm := hm.drew
    have hS : Ms X (fps []) w0 [.blk b2 22 (bytesC 136 b), .blk b1 22 (bytesC 136 a_)] [] w.drew := (hm.pick [0, 1] rfl (by decide)).pickφ [] rfl
    generalize w.drew = w at hm hS ⊢
    refine wph_take (i := 0) rfl (by kernel_rfl) (by kernel_rfl) (by kernel_rfl) (fun _ _ _ h => h) rfl ht hS (wanted_plain rfl) (fun w hm => ev_move ht rfl rfl) ?_
    intro a ht
    obtain ⟨t5, et5, H⟩ := bind_get H
    refine wph_take (i := 1) rfl (by kernel_rfl) (by kernel_rfl) (by kernel_rfl) (fun _ _ _ h => h) rfl ht hS (wanted_plain rfl) (fun w hm => ev_indexAddr_arr ht rfl rfl rfl ar_22 (getB_lo et5) (getB_hi et5)) ?_
    intro a ht
    refine wph_take (i := 2) rfl (by kernel_rfl) (by kernel_rfl) (by kernel_rfl) (fun _ _ _ h => h) rfl ht hS (wanted_plain rfl) (fun w hm => ev_load ht rfl rfl sc_5 (hm.blk_cell 1 rfl (bytes_get et5))) ?_
    intro a ht
    refine wph_take (i := 3) rfl (by kernel_rfl) (by kernel_rfl) (by kernel_rfl) (fun _ _ _ h => h) rfl ht hS (wanted_plain rfl) (fun w hm => ev_move ht rfl rfl) ?_
    intro a ht
    obtain ⟨t6, et6, H⟩ := bind_get H
    refine wph_take (i := 4) rfl (by kernel_rfl) (by kernel_rfl) (by kernel_rfl) (fun _ _ _ h => h) rfl ht hS (wanted_plain rfl) (fun w hm => ev_indexAddr_arr ht rfl rfl rfl ar_22 (getB_lo et6) (getB_hi et6)) ?_
    intro a ht
    refine wph_take (i := 5) rfl (by kernel_rfl) (by kernel_rfl) (by kernel_rfl) (fun _ _ _ h => h) rfl ht hS (wanted_plain rfl) (fun w hm => ev_load ht rfl rfl sc_5 (hm.blk_cell 0 rfl (bytes_get et6))) ?_
    intro a ht
    refine wph_take (i := 6) rfl (by kernel_rfl) (by kernel_rfl) (by kernel_rfl) (fun _ _ _ h => h) rfl ht hS (wanted_plain rfl) (fun w hm => ev_cmp ht rfl rfl rfl rfl) ?_
    intro a ht
    refine wph_done (by kernel_rfl) ?_
    refine then_normal ?_
    by_cases h7 : t5 ≠ t6
    · replace H := ite_yes h7 H
      refine wpc_yes ht rfl (decide_eq_true h7) ?_
      refine wp_seq ?_
      refine wpr ?_
      refine wpl rfl rfl ht (ev_assign ht rfl rfl) ?_
      intro a ht
      refine wpList_nil ?_
      refine then_normal ?_
      refine wp_ret ?_
      refine blk_ret ?_
      refine then_ret ?_
      refine then_ret ?_
      refine blk_ret ?_
      refine then_ret ?_
      have hres := ht.res (P := Try.prog) (w := w) (rs := [.tmp 4]) (vs := [.bool false]) (.tmp rfl .nil)
      obtain rfl := Option.some.inj H
      exact leave ht rfl hres ⟨rfl, ((hm.pick [] rfl (by decide)).pickφ [] rfl).post fun _ h => h⟩
    · replace H := ite_no h7 H
      refine wpc_no ht rfl (decide_eq_false h7) ?_
      refine wp_skip ?_
      refine blk_normal ?_
      refine then_normal ?_
      refine wpr ?_
      refine wpl rfl rfl ht (ev_move ht rfl rfl) ?_
      intro a ht
      refine wpl rfl rfl ht (ev_arith ht rfl rfl rfl rfl) ?_
      intro a ht
      refine wpl rfl rfl ht (ev_assign ht rfl rfl) ?_
      intro a ht
      refine wpList_nil ?_
      exact then_normal ⟨q3, by omega, (w64 (xs0_1 + 1)), H, by omega, ht.sub ⟨rfl, rfl, rfl, rfl, trivial⟩, (hm.pick [0, 1] rfl (by decide)).pickφ [] rfl⟩
  · replace H := ite_no h4 H
    refine wpc_no ht rfl (decide_eq_false h4) ?_
    refine wp_exit ?_
    refine then_exit ?_
    refine then_exit ?_
    refine blk_hit ?_
    refine then_normal ?_
    refine wp_seq ?_
    refine wpr ?_
    refine wpl rfl rfl ht (ev_assign ht rfl rfl) ?_
    intro a ht
    refine wpList_nil ?_
    refine then_normal ?_
    refine wp_ret ?_
    have hres := ht.res (P := Try.prog) (w := w) (rs := [.tmp 4]) (vs := [.bool true]) (.tmp rfl .nil)
    obtain rfl := Option.some.inj H
    exact leave ht rfl hres ⟨rfl, ((hm.pick [] rfl (by decide)).pickφ [] rfl).post fun _ h => h⟩

/-! ### laws_eqColouring: function 12 (loop.example/g01362/laws.eqColouring) -/
def laws_eqColouring.f (k : Nat) (a_ : Col) (b : Col) : Option (Bool) := if a_.p ≠ b.p then (some false) else (if a_.k ≠ b.k then (some false) else ((laws_eqByteA136.f k a_.e b.e).bind fun t5 => if t5 = true then (some true) else (some false)))
set_option maxRecDepth 100000 in
set_option maxHeartbeats 1000000 in
theorem laws_eqColouring.calls (k : Nat) (X : List Nat) (w0 : World)  (a_ : Col) (b : Col) (r : Bool)
    (hp : Pre X w0 [] []) (H : laws_eqColouring.f k a_ b = some r) :
    Calls Try.prog 12 [.agg (Col.cells a_).toArray, .agg (Col.cells b).toArray].toArray w0 (Ret fun v w => v = .bool r ∧ Post X (fps []) w0 [] [] w) := by
  unfold laws_eqColouring.f at H
  refine enterM (n := 21) hp Try.func12 rfl rfl (Nat.le_of_ble_eq_true rfl) fun a w ht hm => ?_
  refine wp_seq ?_
  refine wpr ?_
  refine wpl_box rfl rfl ht hm rfl rfl rfl ?_
  intro b1 a ht w hm
  refine wpl_box rfl rfl ht hm rfl rfl rfl ?_
  intro b2 a ht w hm
  refine wpl rfl rfl ht (ev_assign ht rfl rfl) ?_
  intro a ht
  refine wpList_nil ?_
  refine then_normal ?_
  refine wp_seq ?_
  refine wp_seq ?_
  refine wpr ?_
  refine wpl rfl rfl ht (ev_fieldAddr ht rfl rfl fo_27_0) ?_
  intro a ht
  refine wpl rfl rfl ht (ev_load ht rfl rfl sc_2 (hm.blk_cell 1 rfl rfl)) ?_
  intro a ht
  refine wpl rfl rfl ht (ev_fieldAddr ht rfl rfl fo_27_0) ?_
  intro a ht
  refine wpl rfl rfl ht (ev_load ht rfl rfl sc_2 (hm.blk_cell 0 rfl rfl)) ?_
  intro a ht
  refine wpl rfl rfl ht (ev_cmp ht rfl rfl rfl rfl) ?_
  intro a ht
  refine wpList_nil ?_
  refine then_normal ?_
  by_cases h3 : a_.p ≠ b.p
  · replace H := ite_yes h3 H
    refine wpc_yes ht rfl (decide_eq_true h3) ?_
    refine wp_seq ?_
    refine wpr ?_
    refine wpl rfl rfl ht (ev_assign ht rfl rfl) ?_
    intro a ht
    refine wpList_nil ?_
    refine then_normal ?_
    refine wp_ret ?_
    refine then_ret ?_
    have hres := ht.res (P := Try.prog) (w := w) (rs := [.tmp 4]) (vs := [.bool false]) (.tmp rfl .nil)
    obtain rfl := Option.some.inj H
    exact leave ht rfl hres ⟨rfl, ((hm.pick [] rfl (by decide)).pickφ [] rfl).post fun _ h => h⟩
  · replace H := ite_no h3 H
    refine wpc_no ht rfl (decide_eq_false h3) ?_
    refine wp_skip ?_
    refine then_normal ?_
    refine wp_seq ?_
    refine wp_seq ?_
    refine wpr ?_
    refine wpl rfl rfl ht (ev_fieldAddr ht rfl rfl fo_27_1) ?_
    intro a ht
    refine wpl rfl rfl ht (ev_load ht rfl rfl sc_2 (hm.blk_cell 1 rfl rfl)) ?_
    intro a ht
    refine wpl rfl rfl ht (ev_fieldAddr ht rfl rfl fo_27_1) ?_
    intro a ht
    refine wpl rfl rfl ht (ev_load ht rfl rfl sc_2 (hm.blk_cell 0 rfl rfl)) ?_
    intro a ht
    refine wpl rfl rfl ht (ev_cmp ht rfl rfl rfl rfl) ?_
    intro a ht
    refine wpList_nil ?_
    refine then_normal ?_
    by_cases h4 : a_.k ≠ b.k
    · replace H := ite_yes h4 H
      refine wpc_yes ht rfl (decide_eq_true h4) ?_
      refine wp_seq ?_
      refine wpr ?_
      refine wpl rfl rfl ht (ev_assign ht rfl rfl) ?_
      intro a ht
      refine wpList_nil ?_
      refine then_normal ?_
      refine wp_ret ?_
      refine then_ret ?_
      have hres := ht.res (P := Try.prog) (w := w) (rs := [.tmp 4]) (vs := [.bool false]) (.tmp rfl .nil)
      obtain rfl := Option.some.inj H
      exact leave ht rfl hres ⟨rfl, ((hm.pick [] rfl (by decide)).pickφ [] rfl).post fun _ h => h⟩
    · replace H := ite_no h4 H
      refine wpc_no ht rfl (decide_eq_false h4) ?_
      refine wp_skip ?_
      refine then_normal ?_
      refine wp_seq ?_
      refine wp_seq ?_
      refine wpr ?_
      refine wpl rfl rfl ht (ev_fieldAddr ht rfl rfl fo_27_2) ?_
      intro a ht
      refine wpl rfl rfl ht (ev_load_agg ht rfl rfl (ag_22.trans (by first | rw [length_bytesC] | rfl)) (hm.col_edges 1 rfl)) ?_
      intro a ht
      refine wpl rfl rfl ht (ev_fieldAddr ht rfl rfl fo_27_2) ?_
      intro a ht
      refine wpl rfl rfl ht (ev_load_agg ht rfl rfl (ag_22.trans (by first | rw [length_bytesC] | rfl)) (hm.col_edges 0 rfl)) ?_
      intro a ht
      obtain ⟨t5, et5, H⟩ := bind_get H
      have hcall := laws_eqByteA136.calls k _ _ a_.e b.e _ ((fun (hq : Ms _ _ _ ([] ++ [.blk b2 27 (Col.cells b), .blk b1 27 (Col.cells a_)]) _ _) => hq.lend (φp := []) (allRO_nil)) (hm.pick (own' := [] ++ [.blk b2 27 (Col.cells b), .blk b1 27 (Col.cells a_)]) [0, 1] rfl (by decide))) et5
      refine wpl_call _ rfl rfl ht rfl rfl rfl rfl can_33 hcall ?_
      clear hcall
      rintro _ w ⟨rfl, hpost⟩ a ht
      replace hm := (hm.pick (own' := [] ++ [.blk b2 27 (Col.cells b), .blk b1 27 (Col.cells a_)]) [0, 1] rfl (by decide)).backL hpost
      clear hpost
      refine wpl rfl rfl ht (ev_not ht rfl rfl) ?_
      intro a ht
      refine wpList_nil ?_
      refine then_normal ?_
      by_cases h6 : t5 = true
      · replace H := ite_yes h6 H
        refine wpc_no ht rfl (not_t h6) ?_
        refine wp_skip ?_
        refine then_normal ?_
        refine wp_seq ?_
        refine wpr ?_
        refine wpl rfl rfl ht (ev_assign ht rfl rfl) ?_
        intro a ht
        refine wpList_nil ?_
        refine then_normal ?_
        refine wp_ret ?_
        have hres := ht.res (P := Try.prog) (w := w) (rs := [.tmp 4]) (vs := [.bool true]) (.tmp rfl .nil)
        obtain rfl := Option.some.inj H
        exact leave ht rfl hres ⟨rfl, ((hm.pick [] rfl (by decide)).pickφ [] rfl).post fun _ h => h⟩
      · replace H := ite_no h6 H
        refine wpc_yes ht rfl (not_f (Bool.eq_false_iff.mpr h6)) ?_
        refine wp_seq ?_
        refine wpr ?_
        refine wpl rfl rfl ht (ev_assign ht rfl rfl) ?_
        intro a ht
        refine wpList_nil ?_
        refine then_normal ?_
        refine wp_ret ?_
        refine then_ret ?_
        have hres := ht.res (P := Try.prog) (w := w) (rs := [.tmp 4]) (vs := [.bool false]) (.tmp rfl .nil)
        obtain rfl := Option.some.inj H
        exact leave ht rfl hres ⟨rfl, ((hm.pick [] rfl (by decide)).pickφ [] rfl).post fun _ h => h⟩

end Go.Proofs.Ytbgniopmmankdaa.G
