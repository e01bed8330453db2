/- What each Go function computes, as a Lean function, and the proof that it does: written by a program of this session (wip/gen), part 2. -/
import Derived.Test.YtfhbamlpnicomaaGFnExactMultipliersOf1
namespace Go.Proofs.Ytfhbamlpnicomaa.G
open Go Go.RowKit Go.Proofs.Ytfhbamlpnicomaa.K
set_option linter.unusedVariables false
set_option linter.unusedSimpArgs false

/-! ### spec_l03Circular: function 98 (loop.example/g01362/spec.l03Circular) -/
mutual
def spec_l03Circular.l0 : Nat → Int → List Int → Col → Int → Option (Col)
  | 0, _, _, _, _ => none
  | q3 + 1, n_, list, xs0_1, xs0_2 => if xs0_2 < n_ then (spec_l03Circular.l1 q3 n_ list xs0_2 xs0_1 0) else (some xs0_1)
def spec_l03Circular.l1 : Nat → Int → List Int → Int → Col → Int → Option (Col)
  | 0, _, _, _, _, _ => none
  | q5 + 1, n_, list, xs0_2, xs1_1, xs1_2 => if xs1_2 < xs0_2 then ((spec_l01Edge.f xs1_2 xs0_2).bind fun t7 => (spec_l03Distance.f xs1_2 xs0_2 n_).bind fun t8 => (getI list (w64 (t8 - 1))).bind fun t9 => (getB 136 xs1_1.e t7).bind fun t10 => spec_l03Circular.l1 q5 n_ list xs0_2 (Col.setE xs1_1 t7.toNat (w8 t9)) (w64 (xs1_2 + 1))) else (spec_l03Circular.l0 q5 n_ list xs1_1 (w64 (xs0_2 + 1)))
end
def spec_l03Circular.f (k : Nat) (n_ : Int) (k_ : Int) (list : List Int) : Option (Col) := spec_l03Circular.l0 k n_ list (Col.mk n_ k_ (fun _ => 0)) 1
set_option maxRecDepth 100000 in
set_option maxHeartbeats 1000000 in
theorem spec_l03Circular.calls (k : Nat) (X : List Nat) (w0 : World) (A : Option Addr) (c : Nat) (m : Nat) (n_ : Int) (k_ : Int) (list : List Int) (r : Col)
    (hp : Pre X w0 [] [IntsAt A c m list]) (H : spec_l03Circular.f k n_ k_ list = some r) :
    Calls Try.prog 98 [.int .i64 n_, .int .i64 k_, .slice A m c].toArray w0 (Ret fun v w => v = .agg (Col.cells r).toArray ∧ Post X (fps []) w0 [] [] w) := by
  unfold spec_l03Circular.f at H
  refine enterM (n := 38) hp Try.func98 rfl rfl (Nat.le_of_ble_eq_true rfl) fun a w ht hm => ?_
  refine wp_seq ?_
  refine wpr ?_
  refine wpl_alloc rfl rfl ht hm rfl zo_28 ?_
  intro b1 a ht w hm
  refine wpList_nil ?_
  refine then_normal ?_
  refine wp_seq ?_
  refine wpr ?_
  refine wpl rfl rfl ht (ev_move ht rfl rfl) ?_
  intro a ht
  refine wpl rfl rfl ht (ev_move ht rfl rfl) ?_
  intro a ht
  refine wpl rfl rfl ht (ev_build ht rfl bi_28 rfl (fill_col _ _)) ?_
  intro a ht
  refine wpl_alloc rfl rfl ht hm rfl zo_28 ?_
  intro b2 a ht w hm
  refine wpl_store_whole 0 rfl rfl ht hm rfl rfl rfl (szn_28.trans (by first | rw [Col.length_cells] | rfl)) rfl (by simp only [Col.length_cells]) (Col.cells_one _) ?_
  intro a ht w hm
  refine wpList_nil ?_
  refine then_normal ?_
  refine wp_seq ?_
  refine wp_seq ?_
  refine wpr ?_
  refine wpl rfl rfl ht (ev_assign ht rfl rfl) ?_
  intro a ht
  refine wpList_nil ?_
  refine then_normal ?_
  refine wp_block ?_
  refine wpLoop (fun q a w => ∃ (xs0_1 : Col) (xs0_2 : Int), spec_l03Circular.l0 q n_ list xs0_1 xs0_2 = some r ∧ q ≤ k ∧ Tm 38 [(0, .int .i64 n_), (2, .slice A m c), (6, .pointer (some ⟨b1, 0, none⟩)), (7, .pointer (some ⟨b2, 0, none⟩)), (8, .int .i64 xs0_2)] a ∧ Ms X (fps []) w0 [.blk b2 28 (Col.cells xs0_1), .blk b1 28 (Col.cells Col.zero)] [IntsAt A c m list] w) (k0 := k) ⟨(Col.mk n_ k_ (fun _ => 0)), 1, H, Nat.le_refl _, ht.sub ⟨rfl, rfl, rfl, rfl, rfl, trivial⟩, (hm.pick [0, 1] rfl (by decide)).pickφ [0] rfl⟩ ?_
  clear H ht hm
  intro q3 a w hJ
  obtain ⟨xs0_1, xs0_2, H, hqq3, ht, hm⟩ := hJ
  cases q3 with
  | zero => cases H
  | succ q3 =>
  rw [spec_l03Circular.l0] at H
  refine wp_seq ?_
  refine wp_seq ?_
  refine wpr ?_
  refine wpl rfl rfl ht (ev_move ht rfl rfl) ?_
  intro a ht
  refine wpl rfl rfl ht (ev_move ht rfl rfl) ?_
  intro a ht
  refine wpl rfl rfl ht (ev_cmp ht rfl rfl rfl rfl) ?_
  intro a ht
  refine wpList_nil ?_
  refine then_normal ?_
  by_cases h4 : xs0_2 < n_
  · replace H := ite_yes h4 H
    refine wpc_yes ht rfl (decide_eq_true h4) ?_
    refine wp_skip ?_
    refine then_normal ?_
    refine wp_seq ?_
    refine wp_block ?_
    refine wp_seq ?_
    refine wpr ?_
    refine wpl rfl rfl ht (ev_assign ht rfl rfl) ?_
    intro a ht
    refine wpList_nil ?_
    refine then_normal ?_
    refine wp_block ?_
    refine wpLoop (fun q a w => ∃ (xs1_1 : Col) (xs1_2 : Int), spec_l03Circular.l1 q n_ list xs0_2 xs1_1 xs1_2 = some r ∧ q ≤ q3 ∧ Tm 38 [(0, .int .i64 n_), (2, .slice A m c), (6, .pointer (some ⟨b1, 0, none⟩)), (7, .pointer (some ⟨b2, 0, none⟩)), (8, .int .i64 xs0_2), (13, .int .i64 xs0_2), (14, .int .i64 n_), (15, .bool (decide (xs0_2 < n_))), (9, .int .i64 xs1_2)] a ∧ Ms X (fps []) w0 [.blk b2 28 (Col.cells xs1_1), .blk b1 28 (Col.cells Col.zero)] [IntsAt A c m list] w) (k0 := q3) ⟨xs0_1, 0, H, Nat.le_refl _, ht.sub ⟨rfl, rfl, rfl, rfl, rfl, rfl, rfl, rfl, rfl, trivial⟩, (hm.pick [0, 1] rfl (by decide)).pickφ [0] rfl⟩ ?_
    clear H ht hm
    intro q5 a w hJ
    obtain ⟨xs1_1, xs1_2, H, hqq5, ht, hm⟩ := hJ
    cases q5 with
    | zero => cases H
    | succ q5 =>
    rw [spec_l03Circular.l1] at H
    refine wp_seq ?_
    refine wp_seq ?_
    refine wpr ?_
    refine wpl rfl rfl ht (ev_move ht rfl rfl) ?_
    intro a ht
    refine wpl rfl rfl ht (ev_move ht rfl rfl) ?_
    intro a ht
    refine wpl rfl rfl ht (ev_cmp ht rfl rfl rfl rfl) ?_
    intro a ht
    refine wpList_nil ?_
    refine then_normal ?_
    by_cases h6 : xs1_2 < xs0_2
    · replace H := ite_yes h6 H
      refine wpc_yes ht rfl (decide_eq_true h6) ?_
      refine wp_skip ?_
      refine then_normal ?_
      refine wp_seq ?_
      refine wp_block ?_
      refine wpr ?_
      refine wpl rfl rfl ht (ev_move ht rfl rfl) ?_
      intro a ht
      refine wpl rfl rfl ht (ev_move ht rfl rfl) ?_
      intro a ht
      obtain ⟨t7, et7, H⟩ := bind_get H
      have hcall := spec_l01Edge.calls _ _ xs1_2 xs0_2 _ ((fun (hq : Ms _ _ _ ([] ++ [.blk b2 28 (Col.cells xs1_1), .blk b1 28 (Col.cells Col.zero)]) _ _) => hq.lend (φp := []) (allRO_nil)) (hm.pick (own' := [] ++ [.blk b2 28 (Col.cells xs1_1), .blk b1 28 (Col.cells Col.zero)]) [0, 1] rfl (by decide))) et7
      refine wpl_call _ rfl rfl ht rfl rfl rfl rfl can_92 hcall ?_
      clear hcall
      rintro _ w ⟨rfl, hpost⟩ a ht
      replace hm := (hm.pick (own' := [] ++ [.blk b2 28 (Col.cells xs1_1), .blk b1 28 (Col.cells Col.zero)]) [0, 1] rfl (by decide)).backL hpost
      clear hpost
      refine wpl rfl rfl ht (ev_move ht rfl rfl) ?_
      intro a ht
      refine wpl rfl rfl ht (ev_move ht rfl rfl) ?_
      intro a ht
      refine wpl rfl rfl ht (ev_move ht rfl rfl) ?_
      intro a ht
      refine wpl rfl rfl ht (ev_move ht rfl rfl) ?_
      intro a ht
      obtain ⟨t8, et8, H⟩ := bind_get H
      have hcall := spec_l03Distance.calls _ _ xs1_2 xs0_2 n_ _ ((fun (hq : Ms _ _ _ ([] ++ [.blk b2 28 (Col.cells xs1_1), .blk b1 28 (Col.cells Col.zero)]) _ _) => hq.lend (φp := []) (allRO_nil)) (hm.pick (own' := [] ++ [.blk b2 28 (Col.cells xs1_1), .blk b1 28 (Col.cells Col.zero)]) [0, 1] rfl (by decide))) et8
      refine wpl_call _ rfl rfl ht rfl rfl rfl rfl can_83 hcall ?_
      clear hcall
      rintro _ w ⟨rfl, hpost⟩ a ht
      replace hm := (hm.pick (own' := [] ++ [.blk b2 28 (Col.cells xs1_1), .blk b1 28 (Col.cells Col.zero)]) [0, 1] rfl (by decide)).backL hpost
      clear hpost
      refine wpl rfl rfl ht (ev_arith ht rfl rfl rfl rfl) ?_
      intro a ht
      obtain ⟨t9, et9, H⟩ := bind_get H
      refine wpl rfl rfl ht (ev_index_ints ht rfl rfl rfl so_25 (hm.fact (φ := IntsAt A c m list) 0 rfl) et9) ?_
      intro a ht
      refine wpl rfl rfl ht (ev_load ht rfl rfl sc_2 (RowAt.cell (hm.fact (φ := IntsAt A c m list) 0 rfl) (ints_get et9) rfl)) ?_
      intro a ht
      refine wpl rfl rfl ht (ev_convert ht rfl rfl und_2 und_5) ?_
      intro a ht
      refine wpl rfl rfl ht (ev_fieldAddr ht rfl rfl fo_28_2) ?_
      intro a ht
      obtain ⟨t10, et10, H⟩ := bind_get H
      refine wpl rfl rfl ht (ev_indexAddr_arr ht rfl rfl rfl ar_22 (getB_lo et10) (getB_hi et10)) ?_
      intro a ht
      refine wpl_store_colE 0 rfl rfl ht hm rfl rfl rfl sz1_5 rfl et10 ?_
      intro a ht w hm
      refine wpList_nil ?_
      refine blk_normal ?_
      refine then_normal ?_
      refine wpr ?_
      refine wpl rfl rfl ht (ev_move ht rfl rfl) ?_
      intro a ht
      refine wpl rfl rfl ht (ev_arith ht rfl rfl rfl rfl) ?_
      intro a ht
      refine wpl rfl rfl ht (ev_assign ht rfl rfl) ?_
      intro a ht
      refine wpList_nil ?_
      exact then_normal ⟨q5, by omega, (Col.setE xs1_1 t7.toNat (w8 t9)), (w64 (xs1_2 + 1)), H, by omega, ht.sub ⟨rfl, rfl, rfl, rfl, rfl, rfl, rfl, rfl, rfl, trivial⟩, (hm.pick [0, 1] rfl (by decide)).pickφ [0] rfl⟩
    · replace H := ite_no h6 H
      refine wpc_no ht rfl (decide_eq_false h6) ?_
      refine wp_exit ?_
      refine then_exit ?_
      refine then_exit ?_
      refine blk_hit ?_
      refine blk_normal ?_
      refine then_normal ?_
      refine wpr ?_
      refine wpl rfl rfl ht (ev_move ht rfl rfl) ?_
      intro a ht
      refine wpl rfl rfl ht (ev_arith ht rfl rfl rfl rfl) ?_
      intro a ht
      refine wpl rfl rfl ht (ev_assign ht rfl rfl) ?_
      intro a ht
      refine wpList_nil ?_
      exact then_normal ⟨q5, by omega, xs1_1, (w64 (xs0_2 + 1)), H, by omega, ht.sub ⟨rfl, rfl, rfl, rfl, rfl, trivial⟩, (hm.pick [0, 1] rfl (by decide)).pickφ [0] rfl⟩
  · replace H := ite_no h4 H
    refine wpc_no ht rfl (decide_eq_false h4) ?_
    refine wp_exit ?_
    refine then_exit ?_
    refine then_exit ?_
    refine blk_hit ?_
    refine then_normal ?_
    refine wp_seq ?_
    refine wpr ?_
    refine wpl rfl rfl ht (ev_load_agg ht rfl rfl (ag_28.trans (by first | rw [Col.length_cells] | rfl)) (hm.blk_all 0 rfl)) ?_
    intro a ht
    refine wpl_store_whole 1 rfl rfl ht hm rfl rfl rfl (szn_28.trans (by first | rw [Col.length_cells] | rfl)) rfl (by simp only [Col.length_cells]) (Col.cells_one _) ?_
    intro a ht w hm
    refine wpList_nil ?_
    refine then_normal ?_
    refine wp_ret ?_
    have hres := ht.res (P := Try.prog) (w := w) (rs := [.cell 6 28]) (vs := [.agg (Col.cells xs0_1).toArray]) (.agg rfl (ag_28.trans (by first | rw [Col.length_cells] | rfl)) (hm.blk_all 1 rfl) .nil)
    obtain rfl := Option.some.inj H
    exact leave ht rfl hres ⟨rfl, ((hm.pick [] rfl (by decide)).pickφ [] rfl).post fun _ h => h⟩

/-! ### spec_l03List: function 66 (loop.example/g01362/spec.l03List) -/
def spec_l03List.l0 : Nat → Col → List Int → Int → Option (List Int × Bool)
  | 0, _, _, _ => none
  | q5 + 1, x, ls0_4, xs0_5 => if xs0_5 ≤ (w64 (Int.tdiv x.p 2)) then ((spec_l01At.f x 0 xs0_5).bind fun t7 => (push ls0_4 t7).bind fun l12 => spec_l03List.l0 q5 x l12 (w64 (xs0_5 + 1))) else ((spec_l03Circular.f q5 x.p x.k ls0_4).bind fun t13 => some (ls0_4, Col.same t13 x))
def spec_l03List.f (k : Nat) (x : Col) : Option (List Int × Bool) := if x.p < 2 then (some (([] : List Int), false)) else (spec_l03List.l0 k x ([] : List Int) 1)
set_option maxRecDepth 100000 in
set_option maxHeartbeats 1000000 in
theorem spec_l03List.calls (k : Nat) (X : List Nat) (w0 : World)  (x : Col) (r : List Int × Bool)
    (hp : Pre X w0 [] []) (H : spec_l03List.f k x = some r) :
    Calls Try.prog 66 [.agg (Col.cells x).toArray].toArray w0 (Ret fun v w => ∃ (A_0 : Option Addr) (c_0 : Nat) (n_0 : Nat), v = .tuple [.slice A_0 n_0 c_0, .bool r.2].toArray ∧ Post X (fps []) w0 [.vec A_0 c_0 2 1 n_0 (ints r.1)] [] w) := by
  unfold spec_l03List.f at H
  refine enterM (n := 32) hp Try.func66 rfl rfl (Nat.le_of_ble_eq_true rfl) fun a w ht hm => ?_
  refine wp_seq ?_
  refine wpr ?_
  refine wpl_box rfl rfl ht hm rfl rfl rfl ?_
  intro b1 a ht w hm
  refine wpl rfl rfl ht (ev_assign ht rfl rfl) ?_
  intro a ht
  refine wpl rfl rfl ht (ev_assign ht rfl rfl) ?_
  intro a ht
  refine wpList_nil ?_
  refine then_normal ?_
  refine wp_seq ?_
  refine wp_seq ?_
  refine wpr ?_
  refine wpl rfl rfl ht (ev_fieldAddr ht rfl rfl fo_28_0) ?_
  intro a ht
  refine wpl rfl rfl ht (ev_load ht rfl rfl sc_2 (hm.blk_cell 0 rfl rfl)) ?_
  intro a ht
  refine wpl rfl rfl ht (ev_cmp ht rfl rfl rfl rfl) ?_
  intro a ht
  refine wpList_nil ?_
  refine then_normal ?_
  by_cases h2 : x.p < 2
  · replace H := ite_yes h2 H
    refine wpc_yes ht rfl (decide_eq_true h2) ?_
    refine wp_seq ?_
    refine wpr ?_
    refine wpl rfl rfl ht (ev_assign ht rfl rfl) ?_
    intro a ht
    refine wpl rfl rfl ht (ev_assign ht rfl rfl) ?_
    intro a ht
    refine wpList_nil ?_
    refine then_normal ?_
    refine wp_ret ?_
    refine then_ret ?_
    have hres := ht.res (P := Try.prog) (w := w) (rs := [.tmp 2, .tmp 3]) (vs := [.slice none 0 0, .bool false]) (.tmp rfl (.tmp rfl .nil))
    replace hm : Ms _ _ _ (.vec none 0 2 1 0 (ints ([] : List Int)) :: _) _ w := hm.nilVec none 2 1
    obtain rfl := Option.some.inj H
    exact leave ht rfl hres ⟨none, 0, 0, rfl, ((hm.pick [0] rfl (by decide)).pickφ [] rfl).post fun _ h => h⟩
  · replace H := ite_no h2 H
    refine wpc_no ht rfl (decide_eq_false h2) ?_
    refine wp_skip ?_
    refine then_normal ?_
    refine wp_seq ?_
    refine wpr ?_
    refine wpl_build_ints (l := ([] : List Int)) rfl rfl ht hm rfl und_25 zo_2 sz1_2 (by decide) rfl rfl rfl ?_
    intro A4 a ht w hm
    refine wpl rfl rfl ht (ev_assign ht rfl rfl) ?_
    intro a ht
    refine wpList_nil ?_
    refine then_normal ?_
    refine wp_seq ?_
    refine wp_seq ?_
    refine wpr ?_
    refine wpl rfl rfl ht (ev_assign ht rfl rfl) ?_
    intro a ht
    refine wpList_nil ?_
    refine then_normal ?_
    refine wp_block ?_
    refine wpLoop (fun q a w => ∃ (ls0_4 : List Int) (xs0_5 : Int) (As0_1 : Option Addr) (cs0_2 : Nat) (ms0_3 : Nat), spec_l03List.l0 q x ls0_4 xs0_5 = some r ∧ q ≤ k ∧ Tm 32 [(1, .pointer (some ⟨b1, 0, none⟩)), (2, .slice none 0 0), (3, .bool false), (4, .slice As0_1 ms0_3 cs0_2), (5, .int .i64 xs0_5)] a ∧ Ms X (fps []) w0 [.vec As0_1 cs0_2 2 1 ms0_3 (ints ls0_4), .blk b1 28 (Col.cells x)] [] w) (k0 := k) ⟨([] : List Int), 1, A4, 0, 0, H, Nat.le_refl _, ht.sub ⟨rfl, rfl, rfl, rfl, rfl, trivial⟩, (hm.pick [0, 1] rfl (by decide)).pickφ [] rfl⟩ ?_
    clear H ht hm
    intro q5 a w hJ
    obtain ⟨ls0_4, xs0_5, As0_1, cs0_2, ms0_3, H, hqq5, ht, hm⟩ := hJ
    cases q5 with
    | zero => cases H
    | succ q5 =>
    rw [spec_l03List.l0] at H
    refine wp_seq ?_
    refine wp_seq ?_
    refine wpr ?_
    refine wpl rfl rfl ht (ev_move ht rfl rfl) ?_
    intro a ht
    refine wpl rfl rfl ht (ev_fieldAddr ht rfl rfl fo_28_0) ?_
    intro a ht
    refine wpl rfl rfl ht (ev_load ht rfl rfl sc_2 (hm.blk_cell 1 rfl rfl)) ?_
    intro a ht
    refine wpl rfl rfl ht (ev_quo ht rfl rfl rfl (by decide)) ?_
    intro a ht
    refine wpl rfl rfl ht (ev_cmp ht rfl rfl rfl rfl) ?_
    intro a ht
    refine wpList_nil ?_
    refine then_normal ?_
    by_cases h6 : xs0_5 ≤ (w64 (Int.tdiv x.p 2))
    · replace H := ite_yes h6 H
      refine wpc_yes ht rfl (decide_eq_true h6) ?_
      refine wp_skip ?_
      refine then_normal ?_
      refine wp_seq ?_
      refine wp_block ?_
      refine wpr ?_
      refine wpl rfl rfl ht (ev_move ht rfl rfl) ?_
      intro a ht
      refine wpl rfl rfl ht (ev_load_agg ht rfl rfl (ag_28.trans (by first | rw [Col.length_cells] | rfl)) (hm.blk_all 1 rfl)) ?_
      intro a ht
      refine wpl rfl rfl ht (ev_move ht rfl rfl) ?_
      intro a ht
      obtain ⟨t7, et7, H⟩ := bind_get H
      have hcall := spec_l01At.calls _ _ x 0 xs0_5 _ ((fun (hq : Ms _ _ _ ([] ++ [.vec As0_1 cs0_2 2 1 ms0_3 (ints ls0_4), .blk b1 28 (Col.cells x)]) _ _) => hq.lend (φp := []) (allRO_nil)) (hm.pick (own' := [] ++ [.vec As0_1 cs0_2 2 1 ms0_3 (ints ls0_4), .blk b1 28 (Col.cells x)]) [0, 1] rfl (by decide))) et7
      refine wpl_call _ rfl rfl ht rfl rfl rfl rfl can_87 hcall ?_
      clear hcall
      rintro _ w ⟨rfl, hpost⟩ a ht
      replace hm := (hm.pick (own' := [] ++ [.vec As0_1 cs0_2 2 1 ms0_3 (ints ls0_4), .blk b1 28 (Col.cells x)]) [0, 1] rfl (by decide)).backL hpost
      clear hpost
      refine wpl_build_ints (l := [t7]) rfl rfl ht hm rfl und_25 zo_2 sz1_2 (by decide) rfl rfl rfl ?_
      intro A8 a ht w hm
      obtain ⟨l12, el12, H⟩ := bind_get H
      refine wpl_push (r := l12) 1 0 rfl rfl ht hm rfl ap_25 rfl rfl rfl rfl el12 ?_
      intro A9 c10 m11 a ht w hm
      refine wpl rfl rfl ht (ev_assign ht rfl rfl) ?_
      intro a ht
      refine wpList_nil ?_
      refine blk_normal ?_
      refine then_normal ?_
      refine wpr ?_
      refine wpl rfl rfl ht (ev_move ht rfl rfl) ?_
      intro a ht
      refine wpl rfl rfl ht (ev_arith ht rfl rfl rfl rfl) ?_
      intro a ht
      refine wpl rfl rfl ht (ev_assign ht rfl rfl) ?_
      intro a ht
      refine wpList_nil ?_
      exact then_normal ⟨q5, by omega, l12, (w64 (xs0_5 + 1)), A9, c10, m11, H, by omega, ht.sub ⟨rfl, rfl, rfl, rfl, rfl, trivial⟩, (hm.pick [1, 2] rfl (by decide)).pickφ [] rfl⟩
    · replace H := ite_no h6 H
      refine wpc_no ht rfl (decide_eq_false h6) ?_
      refine wp_exit ?_
      refine then_exit ?_
      refine then_exit ?_
      refine blk_hit ?_
      refine then_normal ?_
      refine wp_seq ?_
      refine wph_begin (fun w => Ms X (fps []) w0 [.vec As0_1 cs0_2 2 1 ms0_3 (ints ls0_4), .blk b1 28 (Col.cells x)] [] w) mixed ?_
      replace hm := hm.drew
      have hS : Ms X (fps []) w0 [.vec As0_1 cs0_2 2 1 ms0_3 (ints ls0_4), .blk b1 28 (Col.cells x)] [] w.drew := (hm.pick [0, 1] rfl (by decide)).pickφ [] rfl
      generalize w.drew = w at hm hS ⊢
      refine wph_take (i := 0) rfl (by kernel_rfl) (by kernel_rfl) (by kernel_rfl) (fun _ _ _ h => h) rfl ht hS (wanted_plain rfl) (fun w hm => ev_move ht rfl rfl) ?_
      intro a ht
      refine wph_take (i := 1) rfl (by kernel_rfl) (by kernel_rfl) (by kernel_rfl) (fun _ _ _ h => h) rfl ht hS (wanted_plain rfl) (fun w hm => ev_fieldAddr ht rfl rfl fo_28_0) ?_
      intro a ht
      refine wph_take (i := 2) rfl (by kernel_rfl) (by kernel_rfl) (by kernel_rfl) (fun _ _ _ h => h) rfl ht hS (wanted_plain rfl) (fun w hm => ev_load ht rfl rfl sc_2 (hm.blk_cell 1 rfl rfl)) ?_
      intro a ht
      refine wph_take (i := 3) rfl (by kernel_rfl) (by kernel_rfl) (by kernel_rfl) (fun _ _ _ h => h) rfl ht hS (wanted_plain rfl) (fun w hm => ev_fieldAddr ht rfl rfl fo_28_1) ?_
      intro a ht
      refine wph_take (i := 4) rfl (by kernel_rfl) (by kernel_rfl) (by kernel_rfl) (fun _ _ _ h => h) rfl ht hS (wanted_plain rfl) (fun w hm => ev_load ht rfl rfl sc_2 (hm.blk_cell 1 rfl rfl)) ?_
      intro a ht
      refine wph_take (i := 5) rfl (by kernel_rfl) (by kernel_rfl) (by kernel_rfl) (fun _ _ _ h => h) rfl ht hS (wanted_plain rfl) (fun w hm => ev_move ht rfl rfl) ?_
      intro a ht
      refine wph_take (i := 7) rfl (by kernel_rfl) (by kernel_rfl) (by kernel_rfl) (fun _ _ _ h => h) rfl ht hS (wanted_plain rfl) (fun w hm => ev_load_agg ht rfl rfl (ag_28.trans (by first | rw [Col.length_cells] | rfl)) (hm.blk_all 1 rfl)) ?_
      intro a ht
      refine wph_one (i := 6) (by kernel_rfl) (wph_step rfl ?_)
      obtain ⟨t13, et13, H⟩ := bind_get H
      have hcall := spec_l03Circular.calls q5 _ _ As0_1 cs0_2 ms0_3 x.p x.k ls0_4 _ ((fun (hq : Ms _ _ _ ([] ++ [.vec As0_1 cs0_2 2 1 ms0_3 (ints ls0_4), .blk b1 28 (Col.cells x)]) _ _) => hq.lend (φp := [IntsAt As0_1 cs0_2 ms0_3 ls0_4]) (allRO_cons (hq.lendVec 0 rfl) (allRO_nil))) (hm.pick (own' := [] ++ [.vec As0_1 cs0_2 2 1 ms0_3 (ints ls0_4), .blk b1 28 (Col.cells x)]) [0, 1] rfl (by decide))) et13
      refine wpl_call _ rfl rfl ht rfl rfl rfl rfl can_98 hcall ?_
      clear hcall
      rintro _ w ⟨rfl, hpost⟩ a ht
      replace hm := (hm.pick (own' := [] ++ [.vec As0_1 cs0_2 2 1 ms0_3 (ints ls0_4), .blk b1 28 (Col.cells x)]) [0, 1] rfl (by decide)).backL hpost
      clear hpost
      have hS : Ms X (fps []) w0 [.vec As0_1 cs0_2 2 1 ms0_3 (ints ls0_4), .blk b1 28 (Col.cells x)] [] w := (hm.pick [0, 1] rfl (by decide)).pickφ [] rfl
      refine wpList_nil (qn ⟨hS, ?_⟩)
      refine wph_take (i := 8) rfl (by kernel_rfl) (by kernel_rfl) (by kernel_rfl) (fun _ _ _ h => h) rfl ht hS (wanted_plain rfl) (fun w hm => ev_eq_col ht rfl rfl rfl ct_28) ?_
      intro a ht
      refine wph_take (i := 9) rfl (by kernel_rfl) (by kernel_rfl) (by kernel_rfl) (fun _ _ _ h => h) rfl ht hS (wanted_plain rfl) (fun w hm => ev_assign ht rfl rfl) ?_
      intro a ht
      refine wph_take (i := 10) rfl (by kernel_rfl) (by kernel_rfl) (by kernel_rfl) (fun _ _ _ h => h) rfl ht hS (wanted_plain rfl) (fun w hm => ev_assign ht rfl rfl) ?_
      intro a ht
      refine wph_done (by kernel_rfl) ?_
      refine then_normal ?_
      refine wp_ret ?_
      have hres := ht.res (P := Try.prog) (w := w) (rs := [.tmp 2, .tmp 3]) (vs := [.slice As0_1 ms0_3 cs0_2, .bool (Col.same t13 x)]) (.tmp rfl (.tmp rfl .nil))
      obtain rfl := Option.some.inj H
      exact leave ht rfl hres ⟨As0_1, cs0_2, ms0_3, rfl, ((hm.pick [0] rfl (by decide)).pickφ [] rfl).post fun _ h => h⟩

/-! ### spec_l03Gcd: function 82 (loop.example/g01362/spec.l03Gcd) -/
def spec_l03Gcd.l0 : Nat → Int → Int → Option (Int)
  | 0, _, _ => none
  | q1 + 1, xs0_1, xs0_2 => if xs0_2 ≠ 0 then ((guardO (xs0_2 ≠ 0)).bind fun _ => spec_l03Gcd.l0 q1 xs0_2 (Int.tmod xs0_1 xs0_2)) else (some xs0_1)
def spec_l03Gcd.f (k : Nat) (a_ : Int) (b : Int) : Option (Int) := spec_l03Gcd.l0 k a_ b
set_option maxRecDepth 100000 in
set_option maxHeartbeats 1000000 in
theorem spec_l03Gcd.calls (k : Nat) (X : List Nat) (w0 : World)  (a_ : Int) (b : Int) (r : Int)
    (hp : Pre X w0 [] []) (H : spec_l03Gcd.f k a_ b = some r) :
    Calls Try.prog 82 [.int .i64 a_, .int .i64 b].toArray w0 (Ret fun v w => v = .int .i64 r ∧ Post X (fps []) w0 [] [] w) := by
  unfold spec_l03Gcd.f at H
  refine enterM (n := 14) hp Try.func82 rfl rfl (Nat.le_of_ble_eq_true rfl) fun a w ht hm => ?_
  refine wp_seq ?_
  refine wpr ?_
  refine wpl rfl rfl ht (ev_assign ht rfl rfl) ?_
  intro a ht
  refine wpList_nil ?_
  refine then_normal ?_
  refine wp_seq ?_
  refine wp_block ?_
  refine wpLoop (fun q a w => ∃ (xs0_1 : Int) (xs0_2 : Int), spec_l03Gcd.l0 q xs0_1 xs0_2 = some r ∧ q ≤ k ∧ Tm 14 [(4, .int .i64 0), (0, .int .i64 xs0_1), (1, .int .i64 xs0_2)] a ∧ Ms X (fps []) w0 [] [] w) (k0 := k) ⟨a_, b, H, Nat.le_refl _, ht.sub ⟨rfl, rfl, rfl, trivial⟩, (hm.pick [] rfl (by decide)).pickφ [] rfl⟩ ?_
  clear H ht hm
  intro q1 a w hJ
  obtain ⟨xs0_1, xs0_2, H, hqq1, ht, hm⟩ := hJ
  cases q1 with
  | zero => cases H
  | succ q1 =>
  rw [spec_l03Gcd.l0] at H
  refine wp_seq ?_
  refine wp_seq ?_
  refine wpr ?_
  refine wpl rfl rfl ht (ev_move ht rfl rfl) ?_
  intro a ht
  refine wpl rfl rfl ht (ev_cmp ht rfl rfl rfl rfl) ?_
  intro a ht
  refine wpList_nil ?_
  refine then_normal ?_
  by_cases h2 : xs0_2 ≠ 0
  · replace H := ite_yes h2 H
    refine wpc_yes ht rfl (decide_eq_true h2) ?_
    refine wp_skip ?_
    refine then_normal ?_
    refine wp_block ?_
    refine wp_seq ?_
    refine wpr ?_
    refine wpl rfl rfl ht (ev_move ht rfl rfl) ?_
    intro a ht
    refine wpl rfl rfl ht (ev_move ht rfl rfl) ?_
    intro a ht
    obtain ⟨u3, eu3, H⟩ := bind_get H
    refine wpl rfl rfl ht (ev_rem ht rfl rfl rfl (guardO_get eu3)) ?_
    intro a ht
    refine wpl rfl rfl ht (ev_assign ht rfl rfl) ?_
    intro a ht
    refine wpList_nil ?_
    refine then_normal ?_
    refine wp_seq ?_
    refine wpr ?_
    refine wpl rfl rfl ht (ev_move ht rfl rfl) ?_
    intro a ht
    refine wpl rfl rfl ht (ev_assign ht rfl rfl) ?_
    intro a ht
    refine wpList_nil ?_
    refine then_normal ?_
    refine wpr ?_
    refine wpl rfl rfl ht (ev_move ht rfl rfl) ?_
    intro a ht
    refine wpl rfl rfl ht (ev_assign ht rfl rfl) ?_
    intro a ht
    refine wpList_nil ?_
    refine blk_normal ?_
    exact then_normal ⟨q1, by omega, xs0_2, (Int.tmod xs0_1 xs0_2), H, by omega, ht.sub ⟨rfl, rfl, rfl, trivial⟩, (hm.pick [] rfl (by decide)).pickφ [] rfl⟩
  · replace H := ite_no h2 H
    refine wpc_no ht rfl (decide_eq_false h2) ?_
    refine wp_exit ?_
    refine then_exit ?_
    refine then_exit ?_
    refine blk_hit ?_
    refine then_normal ?_
    refine wp_seq ?_
    refine wpr ?_
    refine wpl rfl rfl ht (ev_move ht rfl rfl) ?_
    intro a ht
    refine wpl rfl rfl ht (ev_assign ht rfl rfl) ?_
    intro a ht
    refine wpList_nil ?_
    refine then_normal ?_
    refine wp_ret ?_
    have hres := ht.res (P := Try.prog) (w := w) (rs := [.tmp 4]) (vs := [.int .i64 xs0_1]) (.tmp rfl .nil)
    obtain rfl := Option.some.inj H
    exact leave ht rfl hres ⟨rfl, ((hm.pick [] rfl (by decide)).pickφ [] rfl).post fun _ h => h⟩

/-! ### spec_MultipliersOf: function 40 (loop.example/g01362/spec.MultipliersOf) -/
mutual
def spec_MultipliersOf.l0 : Nat → Col → List Int × Bool → List Int → Int → Option (List Int × Int)
  | 0, _, _, _, _ => none
  | q10 + 1, x, t4, ls0_4, xs0_5 => if xs0_5 < x.p then ((spec_l03Gcd.f q10 xs0_5 x.p).bind fun t12 => spec_MultipliersOf.l1 q10 x t4 ls0_4 xs0_5 (decide (t12 = 1)) 1) else (some (ls0_4, 0))
def spec_MultipliersOf.l1 : Nat → Col → List Int × Bool → List Int → Int → Bool → Int → Option (List Int × Int)
  | 0, _, _, _, _, _, _ => none
  | q13 + 1, x, t4, ls0_4, xs0_5, bs1_1, xs1_2 => if xs1_2 ≤ (w64 (Int.tdiv x.p 2)) then (if bs1_1 = true then ((getI t4.1 (w64 (xs1_2 - 1))).bind fun t16 => (guardO (x.p ≠ 0)).bind fun _ => (spec_l03Distance.f 0 (Int.tmod (w64 (xs0_5 * xs1_2)) x.p) x.p).bind fun t18 => (getI t4.1 (w64 (t18 - 1))).bind fun t19 => spec_MultipliersOf.l1 q13 x t4 ls0_4 xs0_5 (decide (t16 = t19)) (w64 (xs1_2 + 1))) else (spec_MultipliersOf.l0 q13 x t4 ls0_4 (w64 (xs0_5 + 1)))) else (if bs1_1 = true then ((push ls0_4 xs0_5).bind fun l25 => spec_MultipliersOf.l0 q13 x t4 l25 (w64 (xs0_5 + 1))) else (spec_MultipliersOf.l0 q13 x t4 ls0_4 (w64 (xs0_5 + 1))))
end
def spec_MultipliersOf.f (k : Nat) (x : Col) : Option (List Int × Int) := (spec_l01Is.f k x).bind fun t2 => if t2 = true then ((spec_l03List.f k x).bind fun t4 => if t4.2 = true then (spec_MultipliersOf.l0 k x t4 ([] : List Int) 1) else (some (([] : List Int), 5))) else (some (([] : List Int), 1))
set_option maxRecDepth 100000 in
set_option maxHeartbeats 1000000 in
theorem spec_MultipliersOf.calls (k : Nat) (X : List Nat) (w0 : World)  (x : Col) (r : List Int × Int)
    (hp : Pre X w0 [] []) (H : spec_MultipliersOf.f k x = some r) :
    Calls Try.prog 40 [.agg (Col.cells x).toArray].toArray w0 (Ret fun v w => ∃ (A_0 : Option Addr) (c_0 : Nat) (n_0 : Nat), v = .tuple [.slice A_0 n_0 c_0, .int .i64 r.2].toArray ∧ Post X (fps []) w0 [.vec A_0 c_0 2 1 n_0 (ints r.1)] [] w) := by
  unfold spec_MultipliersOf.f at H
  refine enterM (n := 67) hp Try.func40 rfl rfl (Nat.le_of_ble_eq_true rfl) fun a w ht hm => ?_
  refine wp_seq ?_
  refine wpr ?_
  refine wpl_box rfl rfl ht hm rfl rfl rfl ?_
  intro b1 a ht w hm
  refine wpl rfl rfl ht (ev_assign ht rfl rfl) ?_
  intro a ht
  refine wpl rfl rfl ht (ev_assign ht rfl rfl) ?_
  intro a ht
  refine wpList_nil ?_
  refine then_normal ?_
  refine wp_seq ?_
  refine wp_seq ?_
  refine wpr ?_
  refine wpl rfl rfl ht (ev_load_agg ht rfl rfl (ag_28.trans (by first | rw [Col.length_cells] | rfl)) (hm.blk_all 0 rfl)) ?_
  intro a ht
  obtain ⟨t2, et2, H⟩ := bind_get H
  have hcall := spec_l01Is.calls k _ _ x _ ((fun (hq : Ms _ _ _ ([] ++ [.blk b1 28 (Col.cells x)]) _ _) => hq.lend (φp := []) (allRO_nil)) (hm.pick (own' := [] ++ [.blk b1 28 (Col.cells x)]) [0] rfl (by decide))) et2
  refine wpl_call _ rfl rfl ht rfl rfl rfl rfl can_54 hcall ?_
  clear hcall
  rintro _ w ⟨rfl, hpost⟩ a ht
  replace hm := (hm.pick (own' := [] ++ [.blk b1 28 (Col.cells x)]) [0] rfl (by decide)).backL hpost
  clear hpost
  refine wpl rfl rfl ht (ev_not ht rfl rfl) ?_
  intro a ht
  refine wpList_nil ?_
  refine then_normal ?_
  by_cases h3 : t2 = true
  · replace H := ite_yes h3 H
    refine wpc_no ht rfl (not_t h3) ?_
    refine wp_skip ?_
    refine then_normal ?_
    refine wp_seq ?_
    refine wpr ?_
    refine wpl rfl rfl ht (ev_load_agg ht rfl rfl (ag_28.trans (by first | rw [Col.length_cells] | rfl)) (hm.blk_all 0 rfl)) ?_
    intro a ht
    obtain ⟨t4, et4, H⟩ := bind_get H
    have hcall := spec_l03List.calls k _ _ x _ ((fun (hq : Ms _ _ _ ([] ++ [.blk b1 28 (Col.cells x)]) _ _) => hq.lend (φp := []) (allRO_nil)) (hm.pick (own' := [] ++ [.blk b1 28 (Col.cells x)]) [0] rfl (by decide))) et4
    refine wpl_call _ rfl rfl ht rfl rfl rfl rfl can_66 hcall ?_
    clear hcall
    rintro _ w ⟨A5, c6, m7, rfl, hpost⟩ a ht
    replace hm := (hm.pick (own' := [] ++ [.blk b1 28 (Col.cells x)]) [0] rfl (by decide)).backL hpost
    clear hpost
    refine wpl rfl rfl ht (ev_move ht rfl rfl) ?_
    intro a ht
    refine wpl rfl rfl ht (ev_extract ht rfl rfl rfl) ?_
    intro a ht
    refine wpl rfl rfl ht (ev_extract ht rfl rfl rfl) ?_
    intro a ht
    refine wpl rfl rfl ht (ev_assign ht rfl rfl) ?_
    intro a ht
    refine wpl rfl rfl ht (ev_assign ht rfl rfl) ?_
    intro a ht
    refine wpList_nil ?_
    refine then_normal ?_
    refine wp_seq ?_
    refine wp_seq ?_
    refine wpr ?_
    refine wpl rfl rfl ht (ev_move ht rfl rfl) ?_
    intro a ht
    refine wpl rfl rfl ht (ev_not ht rfl rfl) ?_
    intro a ht
    refine wpList_nil ?_
    refine then_normal ?_
    by_cases h8 : t4.2 = true
    · replace H := ite_yes h8 H
      refine wpc_no ht rfl (not_t h8) ?_
      refine wp_skip ?_
      refine then_normal ?_
      refine wp_seq ?_
      refine wpr ?_
      refine wpl_build_ints (l := ([] : List Int)) rfl rfl ht hm rfl und_25 zo_2 sz1_2 (by decide) rfl rfl rfl ?_
      intro A9 a ht w hm
      refine wpl rfl rfl ht (ev_assign ht rfl rfl) ?_
      intro a ht
      refine wpList_nil ?_
      refine then_normal ?_
      refine wp_seq ?_
      refine wp_seq ?_
      refine wpr ?_
      refine wpl rfl rfl ht (ev_assign ht rfl rfl) ?_
      intro a ht
      refine wpList_nil ?_
      refine then_normal ?_
      refine wp_block ?_
      refine wpLoop (fun q a w => ∃ (ls0_4 : List Int) (xs0_5 : Int) (As0_1 : Option Addr) (cs0_2 : Nat) (ms0_3 : Nat), spec_MultipliersOf.l0 q x t4 ls0_4 xs0_5 = some r ∧ q ≤ k ∧ Tm 67 [(1, .pointer (some ⟨b1, 0, none⟩)), (2, .slice none 0 0), (3, .int .i64 0), (4, .slice A5 m7 c6), (6, .slice As0_1 ms0_3 cs0_2), (7, .int .i64 xs0_5)] a ∧ Ms X (fps []) w0 [.vec As0_1 cs0_2 2 1 ms0_3 (ints ls0_4), .vec A5 c6 2 1 m7 (ints t4.1), .blk b1 28 (Col.cells x)] [] w) (k0 := k) ⟨([] : List Int), 1, A9, 0, 0, H, Nat.le_refl _, ht.sub ⟨rfl, rfl, rfl, rfl, rfl, rfl, trivial⟩, (hm.pick [0, 1, 2] rfl (by decide)).pickφ [] rfl⟩ ?_
      clear H ht hm
      intro q10 a w hJ
      obtain ⟨ls0_4, xs0_5, As0_1, cs0_2, ms0_3, H, hqq10, ht, hm⟩ := hJ
      cases q10 with
      | zero => cases H
      | succ q10 =>
      rw [spec_MultipliersOf.l0] at H
      refine wp_seq ?_
      refine wp_seq ?_
      refine wpr ?_
      refine wpl rfl rfl ht (ev_move ht rfl rfl) ?_
      intro a ht
      refine wpl rfl rfl ht (ev_fieldAddr ht rfl rfl fo_28_0) ?_
      intro a ht
      refine wpl rfl rfl ht (ev_load ht rfl rfl sc_2 (hm.blk_cell 2 rfl rfl)) ?_
      intro a ht
      refine wpl rfl rfl ht (ev_cmp ht rfl rfl rfl rfl) ?_
      intro a ht
      refine wpList_nil ?_
      refine then_normal ?_
      by_cases h11 : xs0_5 < x.p
      · replace H := ite_yes h11 H
        refine wpc_yes ht rfl (decide_eq_true h11) ?_
        refine wp_skip ?_
        refine then_normal ?_
        refine wp_seq ?_
        refine wp_block ?_
        refine wp_seq ?_
        refine wpr ?_
        refine wpl rfl rfl ht (ev_move ht rfl rfl) ?_
        intro a ht
        refine wpl rfl rfl ht (ev_fieldAddr ht rfl rfl fo_28_0) ?_
        intro a ht
        refine wpl rfl rfl ht (ev_load ht rfl rfl sc_2 (hm.blk_cell 2 rfl rfl)) ?_
        intro a ht
        obtain ⟨t12, et12, H⟩ := bind_get H
        have hcall := spec_l03Gcd.calls q10 _ _ xs0_5 x.p _ ((fun (hq : Ms _ _ _ ([] ++ [.vec As0_1 cs0_2 2 1 ms0_3 (ints ls0_4), .vec A5 c6 2 1 m7 (ints t4.1), .blk b1 28 (Col.cells x)]) _ _) => hq.lend (φp := []) (allRO_nil)) (hm.pick (own' := [] ++ [.vec As0_1 cs0_2 2 1 ms0_3 (ints ls0_4), .vec A5 c6 2 1 m7 (ints t4.1), .blk b1 28 (Col.cells x)]) [0, 1, 2] rfl (by decide))) et12
        refine wpl_call _ rfl rfl ht rfl rfl rfl rfl can_82 hcall ?_
        clear hcall
        rintro _ w ⟨rfl, hpost⟩ a ht
        replace hm := (hm.pick (own' := [] ++ [.vec As0_1 cs0_2 2 1 ms0_3 (ints ls0_4), .vec A5 c6 2 1 m7 (ints t4.1), .blk b1 28 (Col.cells x)]) [0, 1, 2] rfl (by decide)).backL hpost
        clear hpost
        refine wpl rfl rfl ht (ev_cmp ht rfl rfl rfl rfl) ?_
        intro a ht
        refine wpl rfl rfl ht (ev_assign ht rfl rfl) ?_
        intro a ht
        refine wpList_nil ?_
        refine then_normal ?_
        refine wp_seq ?_
        refine wp_seq ?_
        refine wpr ?_
        refine wpl rfl rfl ht (ev_assign ht rfl rfl) ?_
        intro a ht
        refine wpList_nil ?_
        refine then_normal ?_
        refine wp_block ?_
        refine wpLoop (fun q a w => ∃ (bs1_1 : Bool) (xs1_2 : Int), spec_MultipliersOf.l1 q x t4 ls0_4 xs0_5 bs1_1 xs1_2 = some r ∧ q ≤ q10 ∧ Tm 67 [(1, .pointer (some ⟨b1, 0, none⟩)), (2, .slice none 0 0), (3, .int .i64 0), (4, .slice A5 m7 c6), (6, .slice As0_1 ms0_3 cs0_2), (7, .int .i64 xs0_5), (21, .int .i64 xs0_5), (22, .pointer (some ⟨b1, 0 + 0, none⟩)), (23, .int .i64 x.p), (24, .bool (decide (xs0_5 < x.p))), (27, .int .i64 xs0_5), (28, .pointer (some ⟨b1, 0 + 0, none⟩)), (29, .int .i64 x.p), (30, .int .i64 t12), (31, .bool (decide (t12 = 1))), (8, .bool bs1_1), (9, .int .i64 xs1_2)] a ∧ Ms X (fps []) w0 [.vec As0_1 cs0_2 2 1 ms0_3 (ints ls0_4), .vec A5 c6 2 1 m7 (ints t4.1), .blk b1 28 (Col.cells x)] [] w) (k0 := q10) ⟨(decide (t12 = 1)), 1, H, Nat.le_refl _, ht.sub ⟨rfl, rfl, rfl, rfl, rfl, rfl, rfl, rfl, rfl, rfl, rfl, rfl, rfl, rfl, rfl, rfl, rfl, trivial⟩, (hm.pick [0, 1, 2] rfl (by decide)).pickφ [] rfl⟩ ?_
        clear H ht hm
        intro q13 a w hJ
        obtain ⟨bs1_1, xs1_2, H, hqq13, ht, hm⟩ := hJ
        cases q13 with
        | zero => cases H
        | succ q13 =>
        rw [spec_MultipliersOf.l1] at H
        refine wp_seq ?_
        refine wp_seq ?_
        refine wpr ?_
        refine wpl rfl rfl ht (ev_move ht rfl rfl) ?_
        intro a ht
        refine wpl rfl rfl ht (ev_fieldAddr ht rfl rfl fo_28_0) ?_
        intro a ht
        refine wpl rfl rfl ht (ev_load ht rfl rfl sc_2 (hm.blk_cell 2 rfl rfl)) ?_
        intro a ht
        refine wpl rfl rfl ht (ev_quo ht rfl rfl rfl (by decide)) ?_
        intro a ht
        refine wpl rfl rfl ht (ev_cmp ht rfl rfl rfl rfl) ?_
        intro a ht
        refine wpl rfl rfl ht (ev_move ht rfl rfl) ?_
        intro a ht
        by_cases h14 : xs1_2 ≤ (w64 (Int.tdiv x.p 2))
        · replace H := ite_yes h14 H
          refine wpl_yes rfl ht rfl ((decide_eq_true h14)) ?_
          refine wpl rfl rfl ht (ev_move ht rfl rfl) ?_
          intro a ht
          refine wpl rfl rfl ht (ev_pick_yes ht rfl rfl (decide_eq_true h14) rfl) ?_
          intro a ht
          refine wpList_nil ?_
          refine then_normal ?_
          by_cases h15 : bs1_1 = true
          · replace H := ite_yes h15 H
            refine wpc_yes ht rfl h15 ?_
            refine wp_skip ?_
            refine then_normal ?_
            refine wp_seq ?_
            refine wp_block ?_
            refine wph_begin (fun w => Ms X (fps []) w0 [.vec As0_1 cs0_2 2 1 ms0_3 (ints ls0_4), .vec A5 c6 2 1 m7 (ints t4.1), .blk b1 28 (Col.cells x)] [] w) mixed ?_
            replace hm := hm.drew
            have hS : Ms X (fps []) w0 [.vec As0_1 cs0_2 2 1 ms0_3 (ints ls0_4), .vec A5 c6 2 1 m7 (ints t4.1), .blk b1 28 (Col.cells x)] [] w.drew := (hm.pick [0, 1, 2] rfl (by decide)).pickφ [] rfl
            generalize w.drew = w at hm hS ⊢
            refine wph_take (i := 0) rfl (by kernel_rfl) (by kernel_rfl) (by kernel_rfl) (fun _ _ _ h => h) rfl ht hS (wanted_plain rfl) (fun w hm => ev_move ht rfl rfl) ?_
            intro a ht
            refine wph_take (i := 1) rfl (by kernel_rfl) (by kernel_rfl) (by kernel_rfl) (fun _ _ _ h => h) rfl ht hS (wanted_plain rfl) (fun w hm => ev_move ht rfl rfl) ?_
            intro a ht
            refine wph_take (i := 2) rfl (by kernel_rfl) (by kernel_rfl) (by kernel_rfl) (fun _ _ _ h => h) rfl ht hS (wanted_plain rfl) (fun w hm => ev_arith ht rfl rfl rfl rfl) ?_
            intro a ht
            obtain ⟨t16, et16, H⟩ := bind_get H
            refine wph_take (i := 3) rfl (by kernel_rfl) (by kernel_rfl) (by kernel_rfl) (fun _ _ _ h => h) rfl ht hS (wanted_plain rfl) (fun w hm => ev_index_ints ht rfl rfl rfl so_25 (hm.vec_row 1 rfl) et16) ?_
            intro a ht
            refine wph_take (i := 4) rfl (by kernel_rfl) (by kernel_rfl) (by kernel_rfl) (fun _ _ _ h => h) rfl ht hS (wanted_plain rfl) (fun w hm => ev_load ht rfl rfl sc_2 (RowAt.cell (hm.vec_row 1 rfl) (ints_get et16) rfl)) ?_
            intro a ht
            refine wph_take (i := 5) rfl (by kernel_rfl) (by kernel_rfl) (by kernel_rfl) (fun _ _ _ h => h) rfl ht hS (wanted_plain rfl) (fun w hm => ev_move ht rfl rfl) ?_
            intro a ht
            refine wph_take (i := 6) rfl (by kernel_rfl) (by kernel_rfl) (by kernel_rfl) (fun _ _ _ h => h) rfl ht hS (wanted_plain rfl) (fun w hm => ev_move ht rfl rfl) ?_
            intro a ht
            refine wph_take (i := 7) rfl (by kernel_rfl) (by kernel_rfl) (by kernel_rfl) (fun _ _ _ h => h) rfl ht hS (wanted_plain rfl) (fun w hm => ev_move ht rfl rfl) ?_
            intro a ht
            refine wph_take (i := 8) rfl (by kernel_rfl) (by kernel_rfl) (by kernel_rfl) (fun _ _ _ h => h) rfl ht hS (wanted_plain rfl) (fun w hm => ev_arith ht rfl rfl rfl rfl) ?_
            intro a ht
            refine wph_take (i := 9) rfl (by kernel_rfl) (by kernel_rfl) (by kernel_rfl) (fun _ _ _ h => h) rfl ht hS (wanted_plain rfl) (fun w hm => ev_fieldAddr ht rfl rfl fo_28_0) ?_
            intro a ht
            refine wph_take (i := 10) rfl (by kernel_rfl) (by kernel_rfl) (by kernel_rfl) (fun _ _ _ h => h) rfl ht hS (wanted_plain rfl) (fun w hm => ev_load ht rfl rfl sc_2 (hm.blk_cell 2 rfl rfl)) ?_
            intro a ht
            obtain ⟨u17, eu17, H⟩ := bind_get H
            refine wph_take (i := 11) rfl (by kernel_rfl) (by kernel_rfl) (by kernel_rfl) (fun _ _ _ h => h) rfl ht hS (wanted_plain rfl) (fun w hm => ev_rem ht rfl rfl rfl (guardO_get eu17)) ?_
            intro a ht
            refine wph_take (i := 12) rfl (by kernel_rfl) (by kernel_rfl) (by kernel_rfl) (fun _ _ _ h => h) rfl ht hS (wanted_plain rfl) (fun w hm => ev_fieldAddr ht rfl rfl fo_28_0) ?_
            intro a ht
            refine wph_take (i := 13) rfl (by kernel_rfl) (by kernel_rfl) (by kernel_rfl) (fun _ _ _ h => h) rfl ht hS (wanted_plain rfl) (fun w hm => ev_load ht rfl rfl sc_2 (hm.blk_cell 2 rfl rfl)) ?_
            intro a ht
            refine wph_one (i := 14) (by kernel_rfl) (wph_step rfl ?_)
            obtain ⟨t18, et18, H⟩ := bind_get H
            have hcall := spec_l03Distance.calls _ _ 0 (Int.tmod (w64 (xs0_5 * xs1_2)) x.p) x.p _ ((fun (hq : Ms _ _ _ ([] ++ [.vec As0_1 cs0_2 2 1 ms0_3 (ints ls0_4), .vec A5 c6 2 1 m7 (ints t4.1), .blk b1 28 (Col.cells x)]) _ _) => hq.lend (φp := []) (allRO_nil)) (hm.pick (own' := [] ++ [.vec As0_1 cs0_2 2 1 ms0_3 (ints ls0_4), .vec A5 c6 2 1 m7 (ints t4.1), .blk b1 28 (Col.cells x)]) [0, 1, 2] rfl (by decide))) et18
            refine wpl_call _ rfl rfl ht rfl rfl rfl rfl can_83 hcall ?_
            clear hcall
            rintro _ w ⟨rfl, hpost⟩ a ht
            replace hm := (hm.pick (own' := [] ++ [.vec As0_1 cs0_2 2 1 ms0_3 (ints ls0_4), .vec A5 c6 2 1 m7 (ints t4.1), .blk b1 28 (Col.cells x)]) [0, 1, 2] rfl (by decide)).backL hpost
            clear hpost
            have hS : Ms X (fps []) w0 [.vec As0_1 cs0_2 2 1 ms0_3 (ints ls0_4), .vec A5 c6 2 1 m7 (ints t4.1), .blk b1 28 (Col.cells x)] [] w := (hm.pick [0, 1, 2] rfl (by decide)).pickφ [] rfl
            refine wpList_nil (qn ⟨hS, ?_⟩)
            refine wph_take (i := 15) rfl (by kernel_rfl) (by kernel_rfl) (by kernel_rfl) (fun _ _ _ h => h) rfl ht hS (wanted_plain rfl) (fun w hm => ev_arith ht rfl rfl rfl rfl) ?_
            intro a ht
            obtain ⟨t19, et19, H⟩ := bind_get H
            refine wph_take (i := 16) rfl (by kernel_rfl) (by kernel_rfl) (by kernel_rfl) (fun _ _ _ h => h) rfl ht hS (wanted_plain rfl) (fun w hm => ev_index_ints ht rfl rfl rfl so_25 (hm.vec_row 1 rfl) et19) ?_
            intro a ht
            refine wph_take (i := 17) rfl (by kernel_rfl) (by kernel_rfl) (by kernel_rfl) (fun _ _ _ h => h) rfl ht hS (wanted_plain rfl) (fun w hm => ev_load ht rfl rfl sc_2 (RowAt.cell (hm.vec_row 1 rfl) (ints_get et19) rfl)) ?_
            intro a ht
            refine wph_take (i := 18) rfl (by kernel_rfl) (by kernel_rfl) (by kernel_rfl) (fun _ _ _ h => h) rfl ht hS (wanted_plain rfl) (fun w hm => ev_cmp ht rfl rfl rfl rfl) ?_
            intro a ht
            refine wph_take (i := 19) rfl (by kernel_rfl) (by kernel_rfl) (by kernel_rfl) (fun _ _ _ h => h) rfl ht hS (wanted_plain rfl) (fun w hm => ev_assign ht rfl rfl) ?_
            intro a ht
            refine wph_done (by kernel_rfl) ?_
            refine blk_normal ?_
            refine then_normal ?_
            refine wpr ?_
            refine wpl rfl rfl ht (ev_move ht rfl rfl) ?_
            intro a ht
            refine wpl rfl rfl ht (ev_arith ht rfl rfl rfl rfl) ?_
            intro a ht
            refine wpl rfl rfl ht (ev_assign ht rfl rfl) ?_
            intro a ht
            refine wpList_nil ?_
            exact then_normal ⟨q13, by omega, (decide (t16 = t19)), (w64 (xs1_2 + 1)), H, by omega, ht.sub ⟨rfl, rfl, rfl, rfl, rfl, rfl, rfl, rfl, rfl, rfl, rfl, rfl, rfl, rfl, rfl, rfl, rfl, trivial⟩, (hm.pick [0, 1, 2] rfl (by decide)).pickφ [] rfl⟩
          · replace H := ite_no h15 H
            refine wpc_no ht rfl (Bool.eq_false_iff.mpr h15) ?_
            refine wp_exit ?_
            refine then_exit ?_
            refine then_exit ?_
            refine blk_hit ?_
            refine then_normal ?_
            refine wp_seq ?_
            refine wpr ?_
            refine wpl rfl rfl ht (ev_move ht rfl rfl) ?_
            intro a ht
            refine wpList_nil ?_
            refine then_normal ?_
            refine wpc_no ht rfl (Bool.eq_false_iff.mpr h15) ?_
            refine wp_skip ?_
            refine blk_normal ?_
            refine then_normal ?_
            refine wpr ?_
            refine wpl rfl rfl ht (ev_move ht rfl rfl) ?_
            intro a ht
            refine wpl rfl rfl ht (ev_arith ht rfl rfl rfl rfl) ?_
            intro a ht
            refine wpl rfl rfl ht (ev_assign ht rfl rfl) ?_
            intro a ht
            refine wpList_nil ?_
            exact then_normal ⟨q13, by omega, ls0_4, (w64 (xs0_5 + 1)), As0_1, cs0_2, ms0_3, H, by omega, ht.sub ⟨rfl, rfl, rfl, rfl, rfl, rfl, trivial⟩, (hm.pick [0, 1, 2] rfl (by decide)).pickφ [] rfl⟩
        · replace H := ite_no h14 H
          refine wpl_no rfl rfl ht rfl (by rw [(decide_eq_false h14)]; decide) ?_
          intro a ht
          refine wpl rfl rfl ht (ev_pick_no ht rfl rfl (decide_eq_false h14) rfl) ?_
          intro a ht
          refine wpList_nil ?_
          refine then_normal ?_
          refine wpc_no ht rfl rfl ?_
          refine wp_exit ?_
          refine then_exit ?_
          refine then_exit ?_
          refine blk_hit ?_
          refine then_normal ?_
          refine wp_seq ?_
          refine wpr ?_
          refine wpl rfl rfl ht (ev_move ht rfl rfl) ?_
          intro a ht
          refine wpList_nil ?_
          refine then_normal ?_
          by_cases h20 : bs1_1 = true
          · replace H := ite_yes h20 H
            refine wpc_yes ht rfl h20 ?_
            refine wpr ?_
            refine wpl rfl rfl ht (ev_move ht rfl rfl) ?_
            intro a ht
            refine wpl rfl rfl ht (ev_move ht rfl rfl) ?_
            intro a ht
            refine wpl_build_ints (l := [xs0_5]) rfl rfl ht hm rfl und_25 zo_2 sz1_2 (by decide) rfl rfl rfl ?_
            intro A21 a ht w hm
            obtain ⟨l25, el25, H⟩ := bind_get H
            refine wpl_push (r := l25) 1 0 rfl rfl ht hm rfl ap_25 rfl rfl rfl rfl el25 ?_
            intro A22 c23 m24 a ht w hm
            refine wpl rfl rfl ht (ev_assign ht rfl rfl) ?_
            intro a ht
            refine wpList_nil ?_
            refine blk_normal ?_
            refine then_normal ?_
            refine wpr ?_
            refine wpl rfl rfl ht (ev_move ht rfl rfl) ?_
            intro a ht
            refine wpl rfl rfl ht (ev_arith ht rfl rfl rfl rfl) ?_
            intro a ht
            refine wpl rfl rfl ht (ev_assign ht rfl rfl) ?_
            intro a ht
            refine wpList_nil ?_
            exact then_normal ⟨q13, by omega, l25, (w64 (xs0_5 + 1)), A22, c23, m24, H, by omega, ht.sub ⟨rfl, rfl, rfl, rfl, rfl, rfl, trivial⟩, (hm.pick [1, 2, 3] rfl (by decide)).pickφ [] rfl⟩
          · replace H := ite_no h20 H
            refine wpc_no ht rfl (Bool.eq_false_iff.mpr h20) ?_
            refine wp_skip ?_
            refine blk_normal ?_
            refine then_normal ?_
            refine wpr ?_
            refine wpl rfl rfl ht (ev_move ht rfl rfl) ?_
            intro a ht
            refine wpl rfl rfl ht (ev_arith ht rfl rfl rfl rfl) ?_
            intro a ht
            refine wpl rfl rfl ht (ev_assign ht rfl rfl) ?_
            intro a ht
            refine wpList_nil ?_
            exact then_normal ⟨q13, by omega, ls0_4, (w64 (xs0_5 + 1)), As0_1, cs0_2, ms0_3, H, by omega, ht.sub ⟨rfl, rfl, rfl, rfl, rfl, rfl, trivial⟩, (hm.pick [0, 1, 2] rfl (by decide)).pickφ [] rfl⟩
      · replace H := ite_no h11 H
        refine wpc_no ht rfl (decide_eq_false h11) ?_
        refine wp_exit ?_
        refine then_exit ?_
        refine then_exit ?_
        refine blk_hit ?_
        refine then_normal ?_
        refine wp_seq ?_
        refine wpr ?_
        refine wpl rfl rfl ht (ev_move ht rfl rfl) ?_
        intro a ht
        refine wpl rfl rfl ht (ev_assign ht rfl rfl) ?_
        intro a ht
        refine wpl rfl rfl ht (ev_assign ht rfl rfl) ?_
        intro a ht
        refine wpList_nil ?_
        refine then_normal ?_
        refine wp_ret ?_
        have hres := ht.res (P := Try.prog) (w := w) (rs := [.tmp 2, .tmp 3]) (vs := [.slice As0_1 ms0_3 cs0_2, .int .i64 0]) (.tmp rfl (.tmp rfl .nil))
        obtain rfl := Option.some.inj H
        exact leave ht rfl hres ⟨As0_1, cs0_2, ms0_3, rfl, ((hm.pick [0] rfl (by decide)).pickφ [] rfl).post fun _ h => h⟩
    · replace H := ite_no h8 H
      refine wpc_yes ht rfl (not_f (Bool.eq_false_iff.mpr h8)) ?_
      refine wp_seq ?_
      refine wpr ?_
      refine wpl rfl rfl ht (ev_assign ht rfl rfl) ?_
      intro a ht
      refine wpl rfl rfl ht (ev_assign ht rfl rfl) ?_
      intro a ht
      refine wpList_nil ?_
      refine then_normal ?_
      refine wp_ret ?_
      refine then_ret ?_
      have hres := ht.res (P := Try.prog) (w := w) (rs := [.tmp 2, .tmp 3]) (vs := [.slice none 0 0, .int .i64 5]) (.tmp rfl (.tmp rfl .nil))
      replace hm : Ms _ _ _ (.vec none 0 2 1 0 (ints ([] : List Int)) :: _) _ w := hm.nilVec none 2 1
      obtain rfl := Option.some.inj H
      exact leave ht rfl hres ⟨none, 0, 0, rfl, ((hm.pick [0] rfl (by decide)).pickφ [] rfl).post fun _ h => h⟩
  · replace H := ite_no h3 H
    refine wpc_yes ht rfl (not_f (Bool.eq_false_iff.mpr h3)) ?_
    refine wp_seq ?_
    refine wpr ?_
    refine wpl rfl rfl ht (ev_assign ht rfl rfl) ?_
    intro a ht
    refine wpl rfl rfl ht (ev_assign ht rfl rfl) ?_
    intro a ht
    refine wpList_nil ?_
    refine then_normal ?_
    refine wp_ret ?_
    refine then_ret ?_
    have hres := ht.res (P := Try.prog) (w := w) (rs := [.tmp 2, .tmp 3]) (vs := [.slice none 0 0, .int .i64 1]) (.tmp rfl (.tmp rfl .nil))
    replace hm : Ms _ _ _ (.vec none 0 2 1 0 (ints ([] : List Int)) :: _) _ w := hm.nilVec none 2 1
    obtain rfl := Option.some.inj H
    exact leave ht rfl hres ⟨none, 0, 0, rfl, ((hm.pick [0] rfl (by decide)).pickφ [] rfl).post fun _ h => h⟩

end Go.Proofs.Ytfhbamlpnicomaa.G
