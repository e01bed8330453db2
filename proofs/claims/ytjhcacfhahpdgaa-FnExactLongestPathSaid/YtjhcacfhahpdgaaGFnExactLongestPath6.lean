/- What each Go function computes, as a Lean function, and the proof that it does: written by a program of this session (wip/gen), part 6. -/
import Derived.Test.YtjhcacfhahpdgaaGFnExactLongestPath5
namespace Go.Proofs.Ytjhcacfhahpdgaa.G
open Go Go.RowKit Go.Proofs.Ytjhcacfhahpdgaa.K
set_option linter.unusedVariables false
set_option linter.unusedSimpArgs false

/-! ### impl_Colouring_at: function 56 ((*loop.example/g01362/impl.Colouring).at) -/
def impl_Colouring_at.f (x : Col) (i : Int) (j : Int) : Option (Int) := (impl_number.f i j).bind fun t1 => (getB 136 x.e t1).bind fun t2 => some (w64 t2)
set_option maxRecDepth 100000 in
set_option maxHeartbeats 1000000 in
theorem impl_Colouring_at.calls (X : List Nat) (w0 : World) (b : Nat) (x : Col) (i : Int) (j : Int) (r : Int)
    (hp : Pre X w0 [.blk b 28 (Col.cells x)] []) (H : impl_Colouring_at.f x i j = some r) :
    Calls Try.prog 56 [.pointer (some ⟨b, 0, none⟩), .int .i64 i, .int .i64 j].toArray w0 (Ret fun v w => v = .int .i64 r ∧ Post X (fps [.blk b 28 (Col.cells x)]) w0 [.blk b 28 (Col.cells x)] [] w) := by
  unfold impl_Colouring_at.f at H
  refine enterM (n := 16) hp Try.func56 rfl rfl (Nat.le_of_ble_eq_true rfl) fun a w ht hm => ?_
  refine wp_seq ?_
  refine wpr ?_
  refine wpl rfl rfl ht (ev_assign ht rfl rfl) ?_
  intro a ht
  refine wpList_nil ?_
  refine then_normal ?_
  refine wp_seq ?_
  refine wph_begin (fun w => Ms X (fps [.blk b 28 (Col.cells x)]) w0 [.blk b 28 (Col.cells x)] [] w) mixed ?_
  replace hm := hm.drew
  have hS : Ms X (fps [.blk b 28 (Col.cells x)]) w0 [.blk b 28 (Col.cells x)] [] w.drew := (hm.pick [0] rfl (by decide)).pickφ [] rfl
  generalize w.drew = w at hm hS ⊢
  refine wph_take (i := 0) rfl (by kernel_rfl) (by kernel_rfl) (by kernel_rfl) (fun _ _ _ h => h) rfl ht hS (wanted_plain rfl) (fun w hm => ev_move ht rfl rfl) ?_
  intro a ht
  refine wph_take (i := 1) rfl (by kernel_rfl) (by kernel_rfl) (by kernel_rfl) (fun _ _ _ h => h) rfl ht hS (wanted_plain rfl) (fun w hm => ev_move ht rfl rfl) ?_
  intro a ht
  refine wph_take (i := 2) rfl (by kernel_rfl) (by kernel_rfl) (by kernel_rfl) (fun _ _ _ h => h) rfl ht hS (wanted_plain rfl) (fun w hm => ev_move ht rfl rfl) ?_
  intro a ht
  refine wph_take (i := 4) rfl (by kernel_rfl) (by kernel_rfl) (by kernel_rfl) (fun _ _ _ h => h) rfl ht hS (wanted_plain rfl) (fun w hm => ev_nilCheck ht rfl rfl) ?_
  intro a ht
  refine wph_take (i := 5) rfl (by kernel_rfl) (by kernel_rfl) (by kernel_rfl) (fun _ _ _ h => h) rfl ht hS (wanted_plain rfl) (fun w hm => ev_fieldAddr ht rfl rfl fo_28_2) ?_
  intro a ht
  refine wph_one (i := 3) (by kernel_rfl) (wph_step rfl ?_)
  obtain ⟨t1, et1, H⟩ := bind_get H
  have hcall := impl_number.calls _ _ i j _ ((fun (hq : Ms _ _ _ ([] ++ [.blk b 28 (Col.cells x)]) _ _) => hq.lend (φp := []) (allRO_nil)) (hm.pick (own' := [] ++ [.blk b 28 (Col.cells x)]) [0] rfl (by decide))) et1
  refine wpl_call _ rfl rfl ht rfl rfl rfl rfl can_63 hcall ?_
  clear hcall
  rintro _ w ⟨rfl, hpost⟩ a ht
  replace hm := (hm.pick (own' := [] ++ [.blk b 28 (Col.cells x)]) [0] rfl (by decide)).backL hpost
  clear hpost
  have hS : Ms X (fps [.blk b 28 (Col.cells x)]) w0 [.blk b 28 (Col.cells x)] [] w := (hm.pick [0] rfl (by decide)).pickφ [] rfl
  refine wpList_nil (qn ⟨hS, ?_⟩)
  obtain ⟨t2, et2, H⟩ := bind_get H
  refine wph_take (i := 6) rfl (by kernel_rfl) (by kernel_rfl) (by kernel_rfl) (fun _ _ _ h => h) rfl ht hS (wanted_plain rfl) (fun w hm => ev_indexAddr_arr ht rfl rfl rfl ar_22 (getB_lo et2) (getB_hi et2)) ?_
  intro a ht
  refine wph_take (i := 7) rfl (by kernel_rfl) (by kernel_rfl) (by kernel_rfl) (fun _ _ _ h => h) rfl ht hS (wanted_plain rfl) (fun w hm => ev_load ht rfl rfl sc_5 (hm.blk_cell 0 rfl (Col.get et2))) ?_
  intro a ht
  refine wph_take (i := 8) rfl (by kernel_rfl) (by kernel_rfl) (by kernel_rfl) (fun _ _ _ h => h) rfl ht hS (wanted_plain rfl) (fun w hm => ev_convert ht rfl rfl und_5 und_2) ?_
  intro a ht
  refine wph_take (i := 9) rfl (by kernel_rfl) (by kernel_rfl) (by kernel_rfl) (fun _ _ _ h => h) rfl ht hS (wanted_plain rfl) (fun w hm => ev_assign ht rfl rfl) ?_
  intro a ht
  refine wph_done (by kernel_rfl) ?_
  refine then_normal ?_
  refine wp_ret ?_
  have hres := ht.res (P := Try.prog) (w := w) (rs := [.tmp 6]) (vs := [.int .i64 (w64 t2)]) (.tmp rfl .nil)
  obtain rfl := Option.some.inj H
  exact leave ht rfl hres ⟨rfl, ((hm.pick [0] rfl (by decide)).pickφ [] rfl).post fun _ h => h⟩

/-! ### impl_Colouring_joins: function 46 ((*loop.example/g01362/impl.Colouring).joins) -/
def impl_Colouring_joins.f (x : Col) (i : Int) (j : Int) (c : Int) : Option (Bool) := if i ≠ j then ((impl_Colouring_at.f x i j).bind fun t2 => some (decide (t2 = c))) else (some false)
set_option maxRecDepth 100000 in
set_option maxHeartbeats 1000000 in
theorem impl_Colouring_joins.calls (X : List Nat) (w0 : World) (b : Nat) (x : Col) (i : Int) (j : Int) (c : Int) (r : Bool)
    (hp : Pre X w0 [.blk b 28 (Col.cells x)] []) (H : impl_Colouring_joins.f x i j c = some r) :
    Calls Try.prog 46 [.pointer (some ⟨b, 0, none⟩), .int .i64 i, .int .i64 j, .int .i64 c].toArray w0 (Ret fun v w => v = .bool r ∧ Post X (fps [.blk b 28 (Col.cells x)]) w0 [.blk b 28 (Col.cells x)] [] w) := by
  unfold impl_Colouring_joins.f at H
  refine enterM (n := 20) hp Try.func46 rfl rfl (Nat.le_of_ble_eq_true rfl) fun a w ht hm => ?_
  refine wp_seq ?_
  refine wpr ?_
  refine wpl rfl rfl ht (ev_assign ht rfl rfl) ?_
  intro a ht
  refine wpList_nil ?_
  refine then_normal ?_
  refine wp_seq ?_
  refine wpr ?_
  refine wpl rfl rfl ht (ev_move ht rfl rfl) ?_
  intro a ht
  refine wpl rfl rfl ht (ev_move ht rfl rfl) ?_
  intro a ht
  refine wpl rfl rfl ht (ev_cmp ht rfl rfl rfl rfl) ?_
  intro a ht
  refine wpl rfl rfl ht (ev_move ht rfl rfl) ?_
  intro a ht
  by_cases h1 : i ≠ j
  · replace H := ite_yes h1 H
    refine wpl_yes rfl ht rfl ((decide_eq_true h1)) ?_
    refine wpl rfl rfl ht (ev_move ht rfl rfl) ?_
    intro a ht
    refine wpl_yes rfl ht rfl ((decide_eq_true h1)) ?_
    refine wpl rfl rfl ht (ev_move ht rfl rfl) ?_
    intro a ht
    refine wpl_yes rfl ht rfl ((decide_eq_true h1)) ?_
    refine wpl rfl rfl ht (ev_move ht rfl rfl) ?_
    intro a ht
    refine wpl_yes rfl ht rfl ((decide_eq_true h1)) ?_
    obtain ⟨t2, et2, H⟩ := bind_get H
    have hcall := impl_Colouring_at.calls _ _ b x i j _ ((fun (hq : Ms _ _ _ ([.blk b 28 (Col.cells x)] ++ []) _ _) => hq.lend (φp := []) (allRO_nil)) (hm.pick (own' := [.blk b 28 (Col.cells x)] ++ []) [0] rfl (by decide))) et2
    refine wpl_call _ rfl rfl ht rfl rfl rfl rfl can_56 hcall ?_
    clear hcall
    rintro _ w ⟨rfl, hpost⟩ a ht
    replace hm := (hm.pick (own' := [.blk b 28 (Col.cells x)] ++ []) [0] rfl (by decide)).backL hpost
    clear hpost
    refine wpl_yes rfl ht rfl ((decide_eq_true h1)) ?_
    refine wpl rfl rfl ht (ev_move ht rfl rfl) ?_
    intro a ht
    refine wpl_yes rfl ht rfl ((decide_eq_true h1)) ?_
    refine wpl rfl rfl ht (ev_cmp ht rfl rfl rfl rfl) ?_
    intro a ht
    refine wpl rfl rfl ht (ev_pick_yes ht rfl rfl (decide_eq_true h1) rfl) ?_
    intro a ht
    refine wpl rfl rfl ht (ev_assign ht rfl rfl) ?_
    intro a ht
    refine wpList_nil ?_
    refine then_normal ?_
    refine wp_ret ?_
    have hres := ht.res (P := Try.prog) (w := w) (rs := [.tmp 8]) (vs := [.bool (decide (t2 = c))]) (.tmp rfl .nil)
    obtain rfl := Option.some.inj H
    exact leave ht rfl hres ⟨rfl, ((hm.pick [0] rfl (by decide)).pickφ [] rfl).post fun _ h => h⟩
  · replace H := ite_no h1 H
    refine wpl_no rfl rfl ht rfl (by rw [(decide_eq_false h1)]; decide) ?_
    intro a ht
    refine wpl_no rfl rfl ht rfl (by rw [(decide_eq_false h1)]; decide) ?_
    intro a ht
    refine wpl_no rfl rfl ht rfl (by rw [(decide_eq_false h1)]; decide) ?_
    intro a ht
    refine wpl_no rfl rfl ht rfl (by rw [(decide_eq_false h1)]; decide) ?_
    intro a ht
    refine wpl_no rfl rfl ht rfl (by rw [(decide_eq_false h1)]; decide) ?_
    intro a ht
    refine wpl_no rfl rfl ht rfl (by rw [(decide_eq_false h1)]; decide) ?_
    intro a ht
    refine wpl rfl rfl ht (ev_pick_no ht rfl rfl (decide_eq_false h1) rfl) ?_
    intro a ht
    refine wpl rfl rfl ht (ev_assign ht rfl rfl) ?_
    intro a ht
    refine wpList_nil ?_
    refine then_normal ?_
    refine wp_ret ?_
    have hres := ht.res (P := Try.prog) (w := w) (rs := [.tmp 8]) (vs := [.bool false]) (.tmp rfl .nil)
    obtain rfl := Option.some.inj H
    exact leave ht rfl hres ⟨rfl, ((hm.pick [0] rfl (by decide)).pickφ [] rfl).post fun _ h => h⟩

/-! ### impl_Colouring_neighbours_1: function 58 ((*loop.example/g01362/impl.Colouring).neighbours$1) -/
def impl_Colouring_neighbours_1.f (j : Int) (x : Col) (x2 : Int) (x3 : Int) : Option (Bool) := (impl_Colouring_joins.f x x2 j x3).bind fun t1 => some t1
set_option maxRecDepth 100000 in
set_option maxHeartbeats 1000000 in
theorem impl_Colouring_neighbours_1.calls (X : List Nat) (w0 : World) (b : Nat) (b2 : Nat) (b3 : Nat) (b4 : Nat) (j : Int) (x : Col) (x2 : Int) (x3 : Int) (r : Bool)
    (hp : Pre X w0 [.blk b 55 [.pointer (some ⟨b2, 0, none⟩)], .blk b2 28 (Col.cells x), .blk b3 2 [.int .i64 x2], .blk b4 2 [.int .i64 x3]] []) (H : impl_Colouring_neighbours_1.f j x x2 x3 = some r) :
    Calls Try.prog 58 [.int .i64 j, .pointer (some ⟨b, 0, none⟩), .pointer (some ⟨b3, 0, none⟩), .pointer (some ⟨b4, 0, none⟩)].toArray w0 (Ret fun v w => v = .bool r ∧ Post X (fps [.blk b 55 [.pointer (some ⟨b2, 0, none⟩)], .blk b2 28 (Col.cells x), .blk b3 2 [.int .i64 x2], .blk b4 2 [.int .i64 x3]]) w0 [.blk b 55 [.pointer (some ⟨b2, 0, none⟩)], .blk b2 28 (Col.cells x), .blk b3 2 [.int .i64 x2], .blk b4 2 [.int .i64 x3]] [] w) := by
  unfold impl_Colouring_neighbours_1.f at H
  refine enterM (n := 11) hp Try.func58 rfl rfl (Nat.le_of_ble_eq_true rfl) fun a w ht hm => ?_
  refine wp_seq ?_
  refine wpr ?_
  refine wpl rfl rfl ht (ev_assign ht rfl rfl) ?_
  intro a ht
  refine wpList_nil ?_
  refine then_normal ?_
  refine wp_seq ?_
  refine wpr ?_
  refine wpl rfl rfl ht (ev_load ht rfl rfl sc_55 (hm.blk_cell 0 rfl rfl)) ?_
  intro a ht
  refine wpl rfl rfl ht (ev_load ht rfl rfl sc_2 (hm.blk_cell 2 rfl rfl)) ?_
  intro a ht
  refine wpl rfl rfl ht (ev_move ht rfl rfl) ?_
  intro a ht
  refine wpl rfl rfl ht (ev_load ht rfl rfl sc_2 (hm.blk_cell 3 rfl rfl)) ?_
  intro a ht
  obtain ⟨t1, et1, H⟩ := bind_get H
  have hcall := impl_Colouring_joins.calls _ _ b2 x x2 j x3 _ ((fun (hq : Ms _ _ _ ([.blk b2 28 (Col.cells x)] ++ [.blk b 55 [.pointer (some ⟨b2, 0, none⟩)], .blk b3 2 [.int .i64 x2], .blk b4 2 [.int .i64 x3]]) _ _) => hq.lend (φp := []) (allRO_nil)) (hm.pick (own' := [.blk b2 28 (Col.cells x)] ++ [.blk b 55 [.pointer (some ⟨b2, 0, none⟩)], .blk b3 2 [.int .i64 x2], .blk b4 2 [.int .i64 x3]]) [1, 0, 2, 3] rfl (by decide))) et1
  refine wpl_call _ rfl rfl ht rfl rfl rfl rfl can_46 hcall ?_
  clear hcall
  rintro _ w ⟨rfl, hpost⟩ a ht
  replace hm := (hm.pick (own' := [.blk b2 28 (Col.cells x)] ++ [.blk b 55 [.pointer (some ⟨b2, 0, none⟩)], .blk b3 2 [.int .i64 x2], .blk b4 2 [.int .i64 x3]]) [1, 0, 2, 3] rfl (by decide)).backL hpost
  clear hpost
  refine wpl rfl rfl ht (ev_assign ht rfl rfl) ?_
  intro a ht
  refine wpList_nil ?_
  refine then_normal ?_
  refine wp_ret ?_
  have hres := ht.res (P := Try.prog) (w := w) (rs := [.tmp 5]) (vs := [.bool t1]) (.tmp rfl .nil)
  obtain rfl := Option.some.inj H
  exact leave ht rfl hres ⟨rfl, ((hm.pick [1, 0, 2, 3] rfl (by decide)).pickφ [] rfl).post fun _ h => h⟩

/-! ### impl_Colouring_that__Colouring_neighbours_1: function 57 ((*loop.example/g01362/impl.Colouring).that) -/
def impl_Colouring_that__Colouring_neighbours_1.l0 : Nat → Col → Int → Int → List Int → Int → Option (List Int)
  | 0, _, _, _, _, _ => none
  | q2 + 1, x, so, so2, ls0_4, xs0_5 => if xs0_5 < x.p then ((impl_Colouring_neighbours_1.f xs0_5 x so so2).bind fun t4 => if t4 = true then ((push ls0_4 xs0_5).bind fun l10 => impl_Colouring_that__Colouring_neighbours_1.l0 q2 x so so2 l10 (w64 (xs0_5 + 1))) else (impl_Colouring_that__Colouring_neighbours_1.l0 q2 x so so2 ls0_4 (w64 (xs0_5 + 1)))) else (some ls0_4)
def impl_Colouring_that__Colouring_neighbours_1.f (k : Nat) (x : Col) (so : Int) (so2 : Int) : Option (List Int) := impl_Colouring_that__Colouring_neighbours_1.l0 k x so so2 ([] : List Int) 0
set_option maxRecDepth 100000 in
set_option maxHeartbeats 1000000 in
theorem impl_Colouring_that__Colouring_neighbours_1.calls (k : Nat) (X : List Nat) (w0 : World) (b : Nat) (b2 : Nat) (b3 : Nat) (b4 : Nat) (x : Col) (so : Int) (so2 : Int) (r : List Int)
    (hp : Pre X w0 [.blk b 28 (Col.cells x), .blk b2 55 [.pointer (some ⟨b, 0, none⟩)], .blk b3 2 [.int .i64 so], .blk b4 2 [.int .i64 so2]] []) (H : impl_Colouring_that__Colouring_neighbours_1.f k x so so2 = some r) :
    Calls Try.prog 57 [.pointer (some ⟨b, 0, none⟩), .func (.func 58) [].toArray [.pointer (some ⟨b2, 0, none⟩), .pointer (some ⟨b3, 0, none⟩), .pointer (some ⟨b4, 0, none⟩)].toArray].toArray w0 (Ret fun v w => ∃ (A_0 : Option Addr) (c_0 : Nat) (n_0 : Nat), v = .slice A_0 n_0 c_0 ∧ Post X (fps [.blk b 28 (Col.cells x), .blk b2 55 [.pointer (some ⟨b, 0, none⟩)], .blk b3 2 [.int .i64 so], .blk b4 2 [.int .i64 so2]]) w0 [.vec A_0 c_0 2 1 n_0 (ints r), .blk b 28 (Col.cells x), .blk b2 55 [.pointer (some ⟨b, 0, none⟩)], .blk b3 2 [.int .i64 so], .blk b4 2 [.int .i64 so2]] [] w) := by
  unfold impl_Colouring_that__Colouring_neighbours_1.f at H
  refine enterM (n := 24) hp Try.func57 rfl rfl (Nat.le_of_ble_eq_true rfl) fun a w ht hm => ?_
  refine wp_seq ?_
  refine wpr ?_
  refine wpl rfl rfl ht (ev_assign ht rfl rfl) ?_
  intro a ht
  refine wpList_nil ?_
  refine then_normal ?_
  refine wp_seq ?_
  refine wpr ?_
  refine wpl_build_ints (l := ([] : List Int)) rfl rfl ht hm rfl und_25 zo_2 sz1_2 (by decide) rfl rfl rfl ?_
  intro A1 a ht w hm
  refine wpl rfl rfl ht (ev_assign ht rfl rfl) ?_
  intro a ht
  refine wpList_nil ?_
  refine then_normal ?_
  refine wp_seq ?_
  refine wp_seq ?_
  refine wpr ?_
  refine wpl rfl rfl ht (ev_move ht rfl rfl) ?_
  intro a ht
  refine wpl rfl rfl ht (ev_nilCheck ht rfl rfl) ?_
  intro a ht
  refine wpl rfl rfl ht (ev_fieldAddr ht rfl rfl fo_28_0) ?_
  intro a ht
  refine wpl rfl rfl ht (ev_load ht rfl rfl sc_2 (hm.blk_cell 1 rfl rfl)) ?_
  intro a ht
  refine wpl rfl rfl ht (ev_move ht rfl rfl) ?_
  intro a ht
  refine wpList_nil ?_
  refine then_normal ?_
  refine wp_block ?_
  refine wpLoop (fun q a w => ∃ (ls0_4 : List Int) (xs0_5 : Int) (As0_1 : Option Addr) (cs0_2 : Nat) (ms0_3 : Nat), impl_Colouring_that__Colouring_neighbours_1.l0 q x so so2 ls0_4 xs0_5 = some r ∧ q ≤ k ∧ Tm 24 [(1, .func (.func 58) [].toArray [.pointer (some ⟨b2, 0, none⟩), .pointer (some ⟨b3, 0, none⟩), .pointer (some ⟨b4, 0, none⟩)].toArray), (4, .slice none 0 0), (5, .slice As0_1 ms0_3 cs0_2), (11, .int .i64 x.p), (12, .int .i64 xs0_5)] a ∧ Ms X (fps [.blk b 28 (Col.cells x), .blk b2 55 [.pointer (some ⟨b, 0, none⟩)], .blk b3 2 [.int .i64 so], .blk b4 2 [.int .i64 so2]]) w0 [.vec As0_1 cs0_2 2 1 ms0_3 (ints ls0_4), .blk b 28 (Col.cells x), .blk b2 55 [.pointer (some ⟨b, 0, none⟩)], .blk b3 2 [.int .i64 so], .blk b4 2 [.int .i64 so2]] [] w) (k0 := k) ⟨([] : List Int), 0, A1, 0, 0, H, Nat.le_refl _, ht.sub ⟨rfl, rfl, rfl, rfl, rfl, trivial⟩, (hm.pick [0, 1, 2, 3, 4] rfl (by decide)).pickφ [] rfl⟩ ?_
  clear H ht hm
  intro q2 a w hJ
  obtain ⟨ls0_4, xs0_5, As0_1, cs0_2, ms0_3, H, hqq2, ht, hm⟩ := hJ
  cases q2 with
  | zero => cases H
  | succ q2 =>
  rw [impl_Colouring_that__Colouring_neighbours_1.l0] at H
  refine wp_seq ?_
  refine wpr ?_
  refine wpl rfl rfl ht (ev_cmp ht rfl rfl rfl rfl) ?_
  intro a ht
  refine wpList_nil ?_
  refine then_normal ?_
  refine wp_seq ?_
  by_cases h3 : xs0_5 < x.p
  · replace H := ite_yes h3 H
    refine wpc_yes ht rfl (decide_eq_true h3) ?_
    refine wp_skip ?_
    refine then_normal ?_
    refine wp_seq ?_
    refine wp_block ?_
    refine wp_seq ?_
    refine wpr ?_
    refine wpl rfl rfl ht (ev_move ht rfl rfl) ?_
    intro a ht
    refine wpl rfl rfl ht (ev_assign ht rfl rfl) ?_
    intro a ht
    refine wpList_nil ?_
    refine then_normal ?_
    refine wp_seq ?_
    refine wpr ?_
    refine wpl rfl rfl ht (ev_move ht rfl rfl) ?_
    intro a ht
    refine wpl rfl rfl ht (ev_move ht rfl rfl) ?_
    intro a ht
    obtain ⟨t4, et4, H⟩ := bind_get H
    have hcall := impl_Colouring_neighbours_1.calls _ _ b2 b b3 b4 xs0_5 x so so2 _ ((fun (hq : Ms _ _ _ ([.blk b2 55 [.pointer (some ⟨b, 0, none⟩)], .blk b 28 (Col.cells x), .blk b3 2 [.int .i64 so], .blk b4 2 [.int .i64 so2]] ++ [.vec As0_1 cs0_2 2 1 ms0_3 (ints ls0_4)]) _ _) => hq.lend (φp := []) (allRO_nil)) (hm.pick (own' := [.blk b2 55 [.pointer (some ⟨b, 0, none⟩)], .blk b 28 (Col.cells x), .blk b3 2 [.int .i64 so], .blk b4 2 [.int .i64 so2]] ++ [.vec As0_1 cs0_2 2 1 ms0_3 (ints ls0_4)]) [2, 1, 3, 4, 0] rfl (by decide))) et4
    refine wpl_call _ rfl rfl ht rfl rfl rfl rfl can_58 hcall ?_
    clear hcall
    rintro _ w ⟨rfl, hpost⟩ a ht
    replace hm := (hm.pick (own' := [.blk b2 55 [.pointer (some ⟨b, 0, none⟩)], .blk b 28 (Col.cells x), .blk b3 2 [.int .i64 so], .blk b4 2 [.int .i64 so2]] ++ [.vec As0_1 cs0_2 2 1 ms0_3 (ints ls0_4)]) [2, 1, 3, 4, 0] rfl (by decide)).backL hpost
    clear hpost
    refine wpList_nil ?_
    refine then_normal ?_
    by_cases h5 : t4 = true
    · replace H := ite_yes h5 H
      refine wpc_yes ht rfl h5 ?_
      refine wpr ?_
      refine wpl rfl rfl ht (ev_move ht rfl rfl) ?_
      intro a ht
      refine wpl rfl rfl ht (ev_move ht rfl rfl) ?_
      intro a ht
      refine wpl_build_ints (l := [xs0_5]) rfl rfl ht hm rfl und_25 zo_2 sz1_2 (by decide) rfl rfl rfl ?_
      intro A6 a ht w hm
      obtain ⟨l10, el10, H⟩ := bind_get H
      refine wpl_push (r := l10) 5 0 rfl rfl ht hm rfl ap_25 rfl rfl rfl rfl el10 ?_
      intro A7 c8 m9 a ht w hm
      refine wpl rfl rfl ht (ev_assign ht rfl rfl) ?_
      intro a ht
      refine wpList_nil ?_
      refine blk_normal ?_
      refine then_normal ?_
      refine wpr ?_
      refine wpl rfl rfl ht (ev_arith ht rfl rfl rfl rfl) ?_
      intro a ht
      refine wpl rfl rfl ht (ev_move ht rfl rfl) ?_
      intro a ht
      refine wpList_nil ?_
      exact then_normal ⟨q2, by omega, l10, (w64 (xs0_5 + 1)), A7, c8, m9, H, by omega, ht.sub ⟨rfl, rfl, rfl, rfl, rfl, trivial⟩, (hm.pick [5, 2, 1, 3, 4] rfl (by decide)).pickφ [] rfl⟩
    · replace H := ite_no h5 H
      refine wpc_no ht rfl (Bool.eq_false_iff.mpr h5) ?_
      refine wp_skip ?_
      refine blk_normal ?_
      refine then_normal ?_
      refine wpr ?_
      refine wpl rfl rfl ht (ev_arith ht rfl rfl rfl rfl) ?_
      intro a ht
      refine wpl rfl rfl ht (ev_move ht rfl rfl) ?_
      intro a ht
      refine wpList_nil ?_
      exact then_normal ⟨q2, by omega, ls0_4, (w64 (xs0_5 + 1)), As0_1, cs0_2, ms0_3, H, by omega, ht.sub ⟨rfl, rfl, rfl, rfl, rfl, trivial⟩, (hm.pick [4, 1, 0, 2, 3] rfl (by decide)).pickφ [] rfl⟩
  · replace H := ite_no h3 H
    refine wpc_no ht rfl (decide_eq_false h3) ?_
    refine wp_exit ?_
    refine then_exit ?_
    refine then_exit ?_
    refine blk_hit ?_
    refine then_normal ?_
    refine wp_seq ?_
    refine wpr ?_
    refine wpl rfl rfl ht (ev_move ht rfl rfl) ?_
    intro a ht
    refine wpl rfl rfl ht (ev_assign ht rfl rfl) ?_
    intro a ht
    refine wpList_nil ?_
    refine then_normal ?_
    refine wp_ret ?_
    have hres := ht.res (P := Try.prog) (w := w) (rs := [.tmp 4]) (vs := [.slice As0_1 ms0_3 cs0_2]) (.tmp rfl .nil)
    obtain rfl := Option.some.inj H
    exact leave ht rfl hres ⟨As0_1, cs0_2, ms0_3, rfl, ((hm.pick [0, 1, 2, 3, 4] rfl (by decide)).pickφ [] rfl).post fun _ h => h⟩

/-! ### impl_Colouring_neighbours: function 49 ((*loop.example/g01362/impl.Colouring).neighbours) -/
def impl_Colouring_neighbours.f (k : Nat) (x : Col) (i : Int) (c : Int) : Option (List Int) := (impl_Colouring_that__Colouring_neighbours_1.f k x i c).bind fun t4 => some t4
set_option maxRecDepth 100000 in
set_option maxHeartbeats 1000000 in
theorem impl_Colouring_neighbours.calls (k : Nat) (X : List Nat) (w0 : World) (b : Nat) (x : Col) (i : Int) (c : Int) (r : List Int)
    (hp : Pre X w0 [.blk b 28 (Col.cells x)] []) (H : impl_Colouring_neighbours.f k x i c = some r) :
    Calls Try.prog 49 [.pointer (some ⟨b, 0, none⟩), .int .i64 i, .int .i64 c].toArray w0 (Ret fun v w => ∃ (A_0 : Option Addr) (c_0 : Nat) (n_0 : Nat), v = .slice A_0 n_0 c_0 ∧ Post X (fps [.blk b 28 (Col.cells x)]) w0 [.vec A_0 c_0 2 1 n_0 (ints r), .blk b 28 (Col.cells x)] [] w) := by
  unfold impl_Colouring_neighbours.f at H
  refine enterM (n := 10) hp Try.func49 rfl rfl (Nat.le_of_ble_eq_true rfl) fun a w ht hm => ?_
  refine wp_seq ?_
  refine wpr ?_
  refine wpl_box rfl rfl ht hm rfl rfl rfl ?_
  intro b1 a ht w hm
  refine wpl_box rfl rfl ht hm rfl rfl rfl ?_
  intro b2 a ht w hm
  refine wpl_box rfl rfl ht hm rfl rfl rfl ?_
  intro b3 a ht w hm
  refine wpl rfl rfl ht (ev_assign ht rfl rfl) ?_
  intro a ht
  refine wpList_nil ?_
  refine then_normal ?_
  refine wp_seq ?_
  refine wpr ?_
  refine wpl rfl rfl ht (ev_load ht rfl rfl sc_55 (hm.blk_cell 2 rfl rfl)) ?_
  intro a ht
  refine wpl rfl rfl ht (ev_makeFunc ht rfl rfl rfl) ?_
  intro a ht
  obtain ⟨t4, et4, H⟩ := bind_get H
  have hcall := impl_Colouring_that__Colouring_neighbours_1.calls k _ _ b b1 b2 b3 x i c _ ((fun (hq : Ms _ _ _ ([.blk b 28 (Col.cells x), .blk b1 55 [.pointer (some ⟨b, 0, none⟩)], .blk b2 2 [.int .i64 i], .blk b3 2 [.int .i64 c]] ++ []) _ _) => hq.lend (φp := []) (allRO_nil)) (hm.pick (own' := [.blk b 28 (Col.cells x), .blk b1 55 [.pointer (some ⟨b, 0, none⟩)], .blk b2 2 [.int .i64 i], .blk b3 2 [.int .i64 c]] ++ []) [3, 2, 1, 0] rfl (by decide))) et4
  refine wpl_call _ rfl rfl ht rfl rfl rfl rfl can_57 hcall ?_
  clear hcall
  rintro _ w ⟨A5, c6, m7, rfl, hpost⟩ a ht
  replace hm := (hm.pick (own' := [.blk b 28 (Col.cells x), .blk b1 55 [.pointer (some ⟨b, 0, none⟩)], .blk b2 2 [.int .i64 i], .blk b3 2 [.int .i64 c]] ++ []) [3, 2, 1, 0] rfl (by decide)).backL hpost
  clear hpost
  refine wpl rfl rfl ht (ev_assign ht rfl rfl) ?_
  intro a ht
  refine wpList_nil ?_
  refine then_normal ?_
  refine wp_ret ?_
  have hres := ht.res (P := Try.prog) (w := w) (rs := [.tmp 6]) (vs := [.slice A5 m7 c6]) (.tmp rfl .nil)
  obtain rfl := Option.some.inj H
  exact leave ht rfl hres ⟨A5, c6, m7, rfl, ((hm.pick [0, 1] rfl (by decide)).pickφ [] rfl).post fun _ h => h⟩

/-! ### impl_longest_behind: function 48 ((*loop.example/g01362/impl.longest).behind) -/
mutual
def impl_longest_behind.l0 : Nat → Col → Int → Int → Int → List Int → List ((Int × Int) × Int) → Int → Int → Option (Int × List ((Int × Int) × Int))
  | 0, _, _, _, _, _, _, _, _ => none
  | q7 + 1, l, l2, used, last, t3, ms0_1, xs0_2, xs0_3 => if xs0_3 < (t3.length : Int) then ((getI t3 xs0_3).bind fun t9 => (guardO (0 ≤ t9)).bind fun _ => if (bitop .and .i64 (shrI .i64 used t9) 1) = 0 then ((guardO (0 ≤ t9)).bind fun _ => (impl_longest_behind.f q7 l l2 ms0_1 (bitop .or .i64 used (shlI .i64 1 t9)) t9).bind fun t13 => impl_longest_behind.l0 q7 l l2 used last t3 t13.2 (max xs0_2 (w64 (t13.1 + 1))) (w64 (xs0_3 + 1))) else (impl_longest_behind.l0 q7 l l2 used last t3 ms0_1 xs0_2 (w64 (xs0_3 + 1)))) else (some (xs0_2, kvPut ms0_1 (used, last) xs0_2))
def impl_longest_behind.f : Nat → Col → Int → List ((Int × Int) × Int) → Int → Int → Option (Int × List ((Int × Int) × Int))
  | 0, _, _, _, _, _ => none
  | k + 1, l, l2, l3, used, last => if ((kvGet l3 (used, last)).isSome) = true then (some ((kvGet l3 (used, last)).getD 0, l3)) else ((impl_Colouring_neighbours.f k l last l2).bind fun t3 => impl_longest_behind.l0 k l l2 used last t3 l3 0 0)
end
set_option maxRecDepth 100000 in
set_option maxHeartbeats 1000000 in
theorem impl_longest_behind.calls (k : Nat) (X : List Nat) (w0 : World) (b : Nat) (b2 : Nat) (b3 : Nat) (l : Col) (l2 : Int) (l3 : List ((Int × Int) × Int)) (used : Int) (last : Int) (r : Int × List ((Int × Int) × Int))
    (hp : Pre X w0 [.blk b 71 [.pointer (some ⟨b2, 0, none⟩), .int .i64 l2, .map (some b3)], .blk b2 28 (Col.cells l), .kv b3 (kvP l3)] []) (H : impl_longest_behind.f k l l2 l3 used last = some r) :
    Calls Try.prog 48 [.pointer (some ⟨b, 0, none⟩), .int .i64 used, .int .i64 last].toArray w0 (Ret fun v w => v = .int .i64 r.1 ∧ Post X (fps [.blk b 71 [.pointer (some ⟨b2, 0, none⟩), .int .i64 l2, .map (some b3)], .blk b2 28 (Col.cells l), .kv b3 (kvP l3)]) w0 [.blk b 71 [.pointer (some ⟨b2, 0, none⟩), .int .i64 l2, .map (some b3)], .blk b2 28 (Col.cells l), .kv b3 (kvP r.2)] [] w) := by
  induction k using Nat.strongRecOn generalizing X w0 b b2 b3 l l2 l3 used last r with
  | _ k ih =>
  cases k with
  | zero => cases H
  | succ k =>
  rw [impl_longest_behind.f] at H
  refine enterM (n := 65) hp Try.func48 rfl rfl (Nat.le_of_ble_eq_true rfl) fun a w ht hm => ?_
  induction k using Nat.strongRecOn with
  | _ k ih =>
  refine wp_seq ?_
  refine wpr ?_
  refine wpl rfl rfl ht (ev_assign ht rfl rfl) ?_
  intro a ht
  refine wpList_nil ?_
  refine then_normal ?_
  refine wp_seq ?_
  refine wpr ?_
  refine wpl rfl rfl ht (ev_move ht rfl rfl) ?_
  intro a ht
  refine wpl rfl rfl ht (ev_move ht rfl rfl) ?_
  intro a ht
  refine wpl rfl rfl ht (ev_build_arr (vs := [.int .i64 used, .int .i64 last]) ht rfl und_78 zoa_78 sz1_2 rfl rfl) ?_
  intro a ht
  refine wpl_alloc rfl rfl ht hm rfl zo_78 ?_
  intro b1 a ht w hm
  refine wpl_store_whole 0 rfl rfl ht hm rfl rfl rfl szn_78 rfl rfl (by simp [Value.oneCell']) ?_
  intro a ht w hm
  refine wpList_nil ?_
  refine then_normal ?_
  refine wp_seq ?_
  refine wp_seq ?_
  refine wph_begin (fun w => Ms X (fps [.blk b 71 [.pointer (some ⟨b2, 0, none⟩), .int .i64 l2, .map (some b3)], .blk b2 28 (Col.cells l), .kv b3 (kvP l3)]) w0 [.blk b1 78 [.int .i64 used, .int .i64 last], .blk b 71 [.pointer (some ⟨b2, 0, none⟩), .int .i64 l2, .map (some b3)], .blk b2 28 (Col.cells l), .kv b3 (kvP l3)] [] w) mixed ?_
  replace hm := hm.drew
  have hS : Ms X (fps [.blk b 71 [.pointer (some ⟨b2, 0, none⟩), .int .i64 l2, .map (some b3)], .blk b2 28 (Col.cells l), .kv b3 (kvP l3)]) w0 [.blk b1 78 [.int .i64 used, .int .i64 last], .blk b 71 [.pointer (some ⟨b2, 0, none⟩), .int .i64 l2, .map (some b3)], .blk b2 28 (Col.cells l), .kv b3 (kvP l3)] [] w.drew := (hm.pick [0, 1, 2, 3] rfl (by decide)).pickφ [] rfl
  generalize w.drew = w at hm hS ⊢
  refine wph_take (i := 0) rfl (by kernel_rfl) (by kernel_rfl) (by kernel_rfl) (fun _ _ _ h => h) rfl ht hS (wanted_plain rfl) (fun w hm => ev_move ht rfl rfl) ?_
  intro a ht
  refine wph_take (i := 1) rfl (by kernel_rfl) (by kernel_rfl) (by kernel_rfl) (fun _ _ _ h => h) rfl ht hS (wanted_plain rfl) (fun w hm => ev_nilCheck ht rfl rfl) ?_
  intro a ht
  refine wph_take (i := 2) rfl (by kernel_rfl) (by kernel_rfl) (by kernel_rfl) (fun _ _ _ h => h) rfl ht hS (wanted_plain rfl) (fun w hm => ev_fieldAddr ht rfl rfl fo_71_2) ?_
  intro a ht
  refine wph_take (i := 3) rfl (by kernel_rfl) (by kernel_rfl) (by kernel_rfl) (fun _ _ _ h => h) rfl ht hS (wanted_plain rfl) (fun w hm => ev_load ht rfl rfl sc_69 (hm.blk_cell 1 rfl rfl)) ?_
  intro a ht
  refine wph_take (i := 4) rfl (by kernel_rfl) (by kernel_rfl) (by kernel_rfl) (fun _ _ _ h => h) rfl ht hS (wanted_plain rfl) (fun w hm => ev_load_agg (xs := [.int .i64 used, .int .i64 last]) ht rfl rfl ag_78 (hm.blk_all 0 rfl)) ?_
  intro a ht
  refine wph_one (i := 5) (by kernel_rfl) (wph_step rfl ?_)
  refine wpl rfl rfl ht (ev_lookup (f := pairV) (m := l3) (k := (used, last)) 3 ht hm rfl rfl rfl mu_69 (keyP und_78 und_2 sz1_2) zv_2 rfl) ?_
  intro a ht
  have hS : Ms X (fps [.blk b 71 [.pointer (some ⟨b2, 0, none⟩), .int .i64 l2, .map (some b3)], .blk b2 28 (Col.cells l), .kv b3 (kvP l3)]) w0 [.blk b1 78 [.int .i64 used, .int .i64 last], .blk b 71 [.pointer (some ⟨b2, 0, none⟩), .int .i64 l2, .map (some b3)], .blk b2 28 (Col.cells l), .kv b3 (kvP l3)] [] w := (hm.pick [0, 1, 2, 3] rfl (by decide)).pickφ [] rfl
  refine wpList_nil (qn ⟨hS, ?_⟩)
  refine wph_take (i := 6) rfl (by kernel_rfl) (by kernel_rfl) (by kernel_rfl) (fun _ _ _ h => h) rfl ht hS (wanted_plain rfl) (fun w hm => ev_move ht rfl rfl) ?_
  intro a ht
  refine wph_take (i := 7) rfl (by kernel_rfl) (by kernel_rfl) (by kernel_rfl) (fun _ _ _ h => h) rfl ht hS (wanted_plain rfl) (fun w hm => ev_extract ht rfl rfl rfl) ?_
  intro a ht
  refine wph_take (i := 8) rfl (by kernel_rfl) (by kernel_rfl) (by kernel_rfl) (fun _ _ _ h => h) rfl ht hS (wanted_plain rfl) (fun w hm => ev_extract ht rfl rfl rfl) ?_
  intro a ht
  refine wph_take (i := 9) rfl (by kernel_rfl) (by kernel_rfl) (by kernel_rfl) (fun _ _ _ h => h) rfl ht hS (wanted_plain rfl) (fun w hm => ev_assign ht rfl rfl) ?_
  intro a ht
  refine wph_take (i := 10) rfl (by kernel_rfl) (by kernel_rfl) (by kernel_rfl) (fun _ _ _ h => h) rfl ht hS (wanted_plain rfl) (fun w hm => ev_assign ht rfl rfl) ?_
  intro a ht
  refine wph_done (by kernel_rfl) ?_
  refine then_normal ?_
  refine wp_seq ?_
  refine wpr ?_
  refine wpl rfl rfl ht (ev_move ht rfl rfl) ?_
  intro a ht
  refine wpList_nil ?_
  refine then_normal ?_
  by_cases h2 : ((kvGet l3 (used, last)).isSome) = true
  · replace H := ite_yes h2 H
    refine wpc_yes ht rfl h2 ?_
    refine wp_seq ?_
    refine wpr ?_
    refine wpl rfl rfl ht (ev_move ht rfl rfl) ?_
    intro a ht
    refine wpl rfl rfl ht (ev_assign ht rfl rfl) ?_
    intro a ht
    refine wpList_nil ?_
    refine then_normal ?_
    refine wp_ret ?_
    refine then_ret ?_
    have hres := ht.res (P := Try.prog) (w := w) (rs := [.tmp 6]) (vs := [.int .i64 ((kvGet l3 (used, last)).getD 0)]) (.tmp rfl .nil)
    obtain rfl := Option.some.inj H
    exact leave ht rfl hres ⟨rfl, ((hm.pick [1, 2, 3] rfl (by decide)).pickφ [] rfl).post fun _ h => h⟩
  · replace H := ite_no h2 H
    refine wpc_no ht rfl (Bool.eq_false_iff.mpr h2) ?_
    refine wp_skip ?_
    refine then_normal ?_
    refine wp_seq ?_
    refine wpr ?_
    refine wpl rfl rfl ht (ev_assign ht rfl rfl) ?_
    intro a ht
    refine wpList_nil ?_
    refine then_normal ?_
    refine wp_seq ?_
    refine wp_seq ?_
    refine wph_begin (fun w => Ms X (fps [.blk b 71 [.pointer (some ⟨b2, 0, none⟩), .int .i64 l2, .map (some b3)], .blk b2 28 (Col.cells l), .kv b3 (kvP l3)]) w0 [.blk b1 78 [.int .i64 used, .int .i64 last], .blk b 71 [.pointer (some ⟨b2, 0, none⟩), .int .i64 l2, .map (some b3)], .blk b2 28 (Col.cells l), .kv b3 (kvP l3)] [] w) mixed ?_
    replace hm := hm.drew
    have hS : Ms X (fps [.blk b 71 [.pointer (some ⟨b2, 0, none⟩), .int .i64 l2, .map (some b3)], .blk b2 28 (Col.cells l), .kv b3 (kvP l3)]) w0 [.blk b1 78 [.int .i64 used, .int .i64 last], .blk b 71 [.pointer (some ⟨b2, 0, none⟩), .int .i64 l2, .map (some b3)], .blk b2 28 (Col.cells l), .kv b3 (kvP l3)] [] w.drew := (hm.pick [0, 1, 2, 3] rfl (by decide)).pickφ [] rfl
    generalize w.drew = w at hm hS ⊢
    refine wph_take (i := 0) rfl (by kernel_rfl) (by kernel_rfl) (by kernel_rfl) (fun _ _ _ h => h) rfl ht hS (wanted_plain rfl) (fun w hm => ev_move ht rfl rfl) ?_
    intro a ht
    refine wph_take (i := 1) rfl (by kernel_rfl) (by kernel_rfl) (by kernel_rfl) (fun _ _ _ h => h) rfl ht hS (wanted_plain rfl) (fun w hm => ev_nilCheck ht rfl rfl) ?_
    intro a ht
    refine wph_take (i := 2) rfl (by kernel_rfl) (by kernel_rfl) (by kernel_rfl) (fun _ _ _ h => h) rfl ht hS (wanted_plain rfl) (fun w hm => ev_fieldAddr ht rfl rfl fo_71_0) ?_
    intro a ht
    refine wph_take (i := 3) rfl (by kernel_rfl) (by kernel_rfl) (by kernel_rfl) (fun _ _ _ h => h) rfl ht hS (wanted_plain rfl) (fun w hm => ev_load ht rfl rfl sc_55 (hm.blk_cell 1 rfl rfl)) ?_
    intro a ht
    refine wph_take (i := 4) rfl (by kernel_rfl) (by kernel_rfl) (by kernel_rfl) (fun _ _ _ h => h) rfl ht hS (wanted_plain rfl) (fun w hm => ev_move ht rfl rfl) ?_
    intro a ht
    refine wph_take (i := 5) rfl (by kernel_rfl) (by kernel_rfl) (by kernel_rfl) (fun _ _ _ h => h) rfl ht hS (wanted_plain rfl) (fun w hm => ev_move ht rfl rfl) ?_
    intro a ht
    refine wph_take (i := 6) rfl (by kernel_rfl) (by kernel_rfl) (by kernel_rfl) (fun _ _ _ h => h) rfl ht hS (wanted_plain rfl) (fun w hm => ev_nilCheck ht rfl rfl) ?_
    intro a ht
    refine wph_take (i := 7) rfl (by kernel_rfl) (by kernel_rfl) (by kernel_rfl) (fun _ _ _ h => h) rfl ht hS (wanted_plain rfl) (fun w hm => ev_fieldAddr ht rfl rfl fo_71_1) ?_
    intro a ht
    refine wph_take (i := 8) rfl (by kernel_rfl) (by kernel_rfl) (by kernel_rfl) (fun _ _ _ h => h) rfl ht hS (wanted_plain rfl) (fun w hm => ev_load ht rfl rfl sc_2 (hm.blk_cell 1 rfl rfl)) ?_
    intro a ht
    refine wph_take (i := 11) rfl (by kernel_rfl) (by kernel_rfl) (by kernel_rfl) (fun _ _ _ h => h) rfl ht hS (wanted_plain rfl) (fun w hm => ev_move ht rfl rfl) ?_
    intro a ht
    refine wph_one (i := 9) (by kernel_rfl) (wph_step rfl ?_)
    obtain ⟨t3, et3, H⟩ := bind_get H
    have hcall := impl_Colouring_neighbours.calls k _ _ b2 l last l2 _ ((fun (hq : Ms _ _ _ ([.blk b2 28 (Col.cells l)] ++ [.blk b1 78 [.int .i64 used, .int .i64 last], .blk b 71 [.pointer (some ⟨b2, 0, none⟩), .int .i64 l2, .map (some b3)], .kv b3 (kvP l3)]) _ _) => hq.lend (φp := []) (allRO_nil)) (hm.pick (own' := [.blk b2 28 (Col.cells l)] ++ [.blk b1 78 [.int .i64 used, .int .i64 last], .blk b 71 [.pointer (some ⟨b2, 0, none⟩), .int .i64 l2, .map (some b3)], .kv b3 (kvP l3)]) [2, 0, 1, 3] rfl (by decide))) et3
    refine wpl_call _ rfl rfl ht rfl rfl rfl rfl can_49 hcall ?_
    clear hcall
    rintro _ w ⟨A4, c5, m6, rfl, hpost⟩ a ht
    replace hm := (hm.pick (own' := [.blk b2 28 (Col.cells l)] ++ [.blk b1 78 [.int .i64 used, .int .i64 last], .blk b 71 [.pointer (some ⟨b2, 0, none⟩), .int .i64 l2, .map (some b3)], .kv b3 (kvP l3)]) [2, 0, 1, 3] rfl (by decide)).backL hpost
    clear hpost
    have hS : Ms X (fps [.blk b 71 [.pointer (some ⟨b2, 0, none⟩), .int .i64 l2, .map (some b3)], .blk b2 28 (Col.cells l), .kv b3 (kvP l3)]) w0 [.blk b1 78 [.int .i64 used, .int .i64 last], .blk b 71 [.pointer (some ⟨b2, 0, none⟩), .int .i64 l2, .map (some b3)], .blk b2 28 (Col.cells l), .kv b3 (kvP l3)] [] w := (hm.pick [2, 3, 1, 4] rfl (by decide)).pickφ [] rfl
    refine wpList_nil (qn ⟨hS, ?_⟩)
    refine wph_one (i := 10) (by kernel_rfl) (wph_step rfl ?_)
    refine wpl rfl rfl ht (ev_len_of ht rfl rfl und_25 (hm.vec_row 0 rfl)) ?_
    intro a ht
    have hS : Ms X (fps [.blk b 71 [.pointer (some ⟨b2, 0, none⟩), .int .i64 l2, .map (some b3)], .blk b2 28 (Col.cells l), .kv b3 (kvP l3)]) w0 [.blk b1 78 [.int .i64 used, .int .i64 last], .blk b 71 [.pointer (some ⟨b2, 0, none⟩), .int .i64 l2, .map (some b3)], .blk b2 28 (Col.cells l), .kv b3 (kvP l3)] [] w := (hm.pick [2, 3, 1, 4] rfl (by decide)).pickφ [] rfl
    refine wpList_nil (qn ⟨hS, ?_⟩)
    refine wph_done (by kernel_rfl) ?_
    refine then_normal ?_
    refine wp_block ?_
    refine wpLoop (fun q a w => ∃ (ms0_1 : List ((Int × Int) × Int)) (xs0_2 : Int) (xs0_3 : Int), impl_longest_behind.l0 q l l2 used last t3 ms0_1 xs0_2 xs0_3 = some r ∧ q ≤ k ∧ Tm 65 [(0, .pointer (some ⟨b, 0, none⟩)), (1, .int .i64 used), (6, .int .i64 0), (7, .pointer (some ⟨b1, 0, none⟩)), (36, .slice A4 m6 c5), (37, .int .i64 (t3.length : Int)), (10, .int .i64 xs0_2), (38, .int .i64 xs0_3)] a ∧ Ms X (fps [.blk b 71 [.pointer (some ⟨b2, 0, none⟩), .int .i64 l2, .map (some b3)], .blk b2 28 (Col.cells l), .kv b3 (kvP l3)]) w0 [.vec A4 c5 2 1 m6 (ints t3), .blk b2 28 (Col.cells l), .blk b1 78 [.int .i64 used, .int .i64 last], .blk b 71 [.pointer (some ⟨b2, 0, none⟩), .int .i64 l2, .map (some b3)], .kv b3 (kvP ms0_1)] [] w) (k0 := k) ⟨l3, 0, 0, H, Nat.le_refl _, ht.sub ⟨rfl, rfl, rfl, rfl, rfl, rfl, rfl, rfl, trivial⟩, (hm.pick [0, 1, 2, 3, 4] rfl (by decide)).pickφ [] rfl⟩ ?_
    clear H ht hm
    intro q7 a w hJ
    obtain ⟨ms0_1, xs0_2, xs0_3, H, hqq7, ht, hm⟩ := hJ
    cases q7 with
    | zero => cases H
    | succ q7 =>
    rw [impl_longest_behind.l0] at H
    refine wp_seq ?_
    refine wpr ?_
    refine wpl rfl rfl ht (ev_cmp ht rfl rfl rfl rfl) ?_
    intro a ht
    refine wpList_nil ?_
    refine then_normal ?_
    refine wp_seq ?_
    by_cases h8 : xs0_3 < (t3.length : Int)
    · replace H := ite_yes h8 H
      refine wpc_yes ht rfl (decide_eq_true h8) ?_
      refine wp_skip ?_
      refine then_normal ?_
      refine wp_seq ?_
      refine wp_block ?_
      refine wp_seq ?_
      refine wpr ?_
      obtain ⟨t9, et9, H⟩ := bind_get H
      refine wpl rfl rfl ht (ev_index_ints ht rfl rfl rfl so_25 (hm.vec_row 0 rfl) et9) ?_
      intro a ht
      refine wpl rfl rfl ht (ev_load ht rfl rfl sc_2 (RowAt.cell (hm.vec_row 0 rfl) (ints_get et9) rfl)) ?_
      intro a ht
      refine wpl rfl rfl ht (ev_assign ht rfl rfl) ?_
      intro a ht
      refine wpList_nil ?_
      refine then_normal ?_
      refine wp_seq ?_
      refine wpr ?_
      refine wpl rfl rfl ht (ev_move ht rfl rfl) ?_
      intro a ht
      refine wpl rfl rfl ht (ev_move ht rfl rfl) ?_
      intro a ht
      obtain ⟨u10, eu10, H⟩ := bind_get H
      refine wpl rfl rfl ht (ev_shr ht rfl rfl rfl (guardO_get eu10)) ?_
      intro a ht
      refine wpl rfl rfl ht (ev_bit ht rfl rfl rfl rfl) ?_
      intro a ht
      refine wpl rfl rfl ht (ev_cmp ht rfl rfl rfl rfl) ?_
      intro a ht
      refine wpList_nil ?_
      refine then_normal ?_
      by_cases h11 : (bitop .and .i64 (shrI .i64 used t9) 1) = 0
      · replace H := ite_yes h11 H
        refine wpc_yes ht rfl (decide_eq_true h11) ?_
        refine wpr ?_
        refine wpl rfl rfl ht (ev_move ht rfl rfl) ?_
        intro a ht
        refine wpl rfl rfl ht (ev_move ht rfl rfl) ?_
        intro a ht
        refine wpl rfl rfl ht (ev_move ht rfl rfl) ?_
        intro a ht
        refine wpl rfl rfl ht (ev_move ht rfl rfl) ?_
        intro a ht
        obtain ⟨u12, eu12, H⟩ := bind_get H
        refine wpl rfl rfl ht (ev_shl ht rfl rfl rfl (guardO_get eu12)) ?_
        intro a ht
        refine wpl rfl rfl ht (ev_bit ht rfl rfl rfl rfl) ?_
        intro a ht
        refine wpl rfl rfl ht (ev_move ht rfl rfl) ?_
        intro a ht
        obtain ⟨t13, et13, H⟩ := bind_get H
        have hcall := ih q7 (by omega) _ _ b b2 b3 l l2 ms0_1 (bitop .or .i64 used (shlI .i64 1 t9)) t9 _ ((fun (hq : Ms _ _ _ ([.blk b 71 [.pointer (some ⟨b2, 0, none⟩), .int .i64 l2, .map (some b3)], .blk b2 28 (Col.cells l), .kv b3 (kvP ms0_1)] ++ [.vec A4 c5 2 1 m6 (ints t3), .blk b1 78 [.int .i64 used, .int .i64 last]]) _ _) => hq.lend (φp := []) (allRO_nil)) (hm.pick (own' := [.blk b 71 [.pointer (some ⟨b2, 0, none⟩), .int .i64 l2, .map (some b3)], .blk b2 28 (Col.cells l), .kv b3 (kvP ms0_1)] ++ [.vec A4 c5 2 1 m6 (ints t3), .blk b1 78 [.int .i64 used, .int .i64 last]]) [3, 1, 4, 0, 2] rfl (by decide))) et13
        refine wpl_call _ rfl rfl ht rfl rfl rfl rfl can_48 hcall ?_
        clear hcall
        rintro _ w ⟨rfl, hpost⟩ a ht
        replace hm := (hm.pick (own' := [.blk b 71 [.pointer (some ⟨b2, 0, none⟩), .int .i64 l2, .map (some b3)], .blk b2 28 (Col.cells l), .kv b3 (kvP ms0_1)] ++ [.vec A4 c5 2 1 m6 (ints t3), .blk b1 78 [.int .i64 used, .int .i64 last]]) [3, 1, 4, 0, 2] rfl (by decide)).backL hpost
        clear hpost
        refine wpl rfl rfl ht (ev_arith ht rfl rfl rfl rfl) ?_
        intro a ht
        refine wpl rfl rfl ht (ev_max ht rfl rfl rfl) ?_
        intro a ht
        refine wpl rfl rfl ht (ev_assign ht rfl rfl) ?_
        intro a ht
        refine wpList_nil ?_
        refine blk_normal ?_
        refine then_normal ?_
        refine wpr ?_
        refine wpl rfl rfl ht (ev_arith ht rfl rfl rfl rfl) ?_
        intro a ht
        refine wpl rfl rfl ht (ev_move ht rfl rfl) ?_
        intro a ht
        refine wpList_nil ?_
        exact then_normal ⟨q7, by omega, t13.2, (max xs0_2 (w64 (t13.1 + 1))), (w64 (xs0_3 + 1)), H, by omega, ht.sub ⟨rfl, rfl, rfl, rfl, rfl, rfl, rfl, rfl, trivial⟩, (hm.pick [3, 1, 4, 0, 2] rfl (by decide)).pickφ [] rfl⟩
      · replace H := ite_no h11 H
        refine wpc_no ht rfl (decide_eq_false h11) ?_
        refine wp_skip ?_
        refine blk_normal ?_
        refine then_normal ?_
        refine wpr ?_
        refine wpl rfl rfl ht (ev_arith ht rfl rfl rfl rfl) ?_
        intro a ht
        refine wpl rfl rfl ht (ev_move ht rfl rfl) ?_
        intro a ht
        refine wpList_nil ?_
        exact then_normal ⟨q7, by omega, ms0_1, xs0_2, (w64 (xs0_3 + 1)), H, by omega, ht.sub ⟨rfl, rfl, rfl, rfl, rfl, rfl, rfl, rfl, trivial⟩, (hm.pick [0, 1, 2, 3, 4] rfl (by decide)).pickφ [] rfl⟩
    · replace H := ite_no h8 H
      refine wpc_no ht rfl (decide_eq_false h8) ?_
      refine wp_exit ?_
      refine then_exit ?_
      refine then_exit ?_
      refine blk_hit ?_
      refine then_normal ?_
      refine wp_seq ?_
      refine wph_begin (fun w => Ms X (fps [.blk b 71 [.pointer (some ⟨b2, 0, none⟩), .int .i64 l2, .map (some b3)], .blk b2 28 (Col.cells l), .kv b3 (kvP l3)]) w0 [.vec A4 c5 2 1 m6 (ints t3), .blk b2 28 (Col.cells l), .blk b1 78 [.int .i64 used, .int .i64 last], .blk b 71 [.pointer (some ⟨b2, 0, none⟩), .int .i64 l2, .map (some b3)]] [] w) mixed ?_
      replace hm := hm.drew
      have hS : Ms X (fps [.blk b 71 [.pointer (some ⟨b2, 0, none⟩), .int .i64 l2, .map (some b3)], .blk b2 28 (Col.cells l), .kv b3 (kvP l3)]) w0 [.vec A4 c5 2 1 m6 (ints t3), .blk b2 28 (Col.cells l), .blk b1 78 [.int .i64 used, .int .i64 last], .blk b 71 [.pointer (some ⟨b2, 0, none⟩), .int .i64 l2, .map (some b3)]] [] w.drew := (hm.pick [0, 1, 2, 3] rfl (by decide)).pickφ [] rfl
      generalize w.drew = w at hm hS ⊢
      refine wph_take (i := 0) rfl (by kernel_rfl) (by kernel_rfl) (by kernel_rfl) (fun _ _ _ h => h) rfl ht hS (wanted_plain rfl) (fun w hm => ev_move ht rfl rfl) ?_
      intro a ht
      refine wph_take (i := 1) rfl (by kernel_rfl) (by kernel_rfl) (by kernel_rfl) (fun _ _ _ h => h) rfl ht hS (wanted_plain rfl) (fun w hm => ev_nilCheck ht rfl rfl) ?_
      intro a ht
      refine wph_take (i := 2) rfl (by kernel_rfl) (by kernel_rfl) (by kernel_rfl) (fun _ _ _ h => h) rfl ht hS (wanted_plain rfl) (fun w hm => ev_fieldAddr ht rfl rfl fo_71_2) ?_
      intro a ht
      refine wph_take (i := 3) rfl (by kernel_rfl) (by kernel_rfl) (by kernel_rfl) (fun _ _ _ h => h) rfl ht hS (wanted_plain rfl) (fun w hm => ev_load ht rfl rfl sc_69 (hm.blk_cell 3 rfl rfl)) ?_
      intro a ht
      refine wph_take (i := 4) rfl (by kernel_rfl) (by kernel_rfl) (by kernel_rfl) (fun _ _ _ h => h) rfl ht hS (wanted_plain rfl) (fun w hm => ev_load_agg (xs := [.int .i64 used, .int .i64 last]) ht rfl rfl ag_78 (hm.blk_all 2 rfl)) ?_
      intro a ht
      refine wph_take (i := 5) rfl (by kernel_rfl) (by kernel_rfl) (by kernel_rfl) (fun _ _ _ h => h) rfl ht hS (wanted_plain rfl) (fun w hm => ev_move ht rfl rfl) ?_
      intro a ht
      refine wph_one (i := 6) (by kernel_rfl) (wph_step rfl ?_)
      refine wpl_mapUpdate (f := pairV) (m := ms0_1) (k := (used, last)) (v := xs0_2) 4 rfl rfl ht hm rfl rfl rfl rfl mu_69 (keyP und_78 und_2 sz1_2) rfl ?_
      intro a ht w hm
      have hS : Ms X (fps [.blk b 71 [.pointer (some ⟨b2, 0, none⟩), .int .i64 l2, .map (some b3)], .blk b2 28 (Col.cells l), .kv b3 (kvP l3)]) w0 [.vec A4 c5 2 1 m6 (ints t3), .blk b2 28 (Col.cells l), .blk b1 78 [.int .i64 used, .int .i64 last], .blk b 71 [.pointer (some ⟨b2, 0, none⟩), .int .i64 l2, .map (some b3)]] [] w := (hm.pick [0, 1, 2, 3] rfl (by decide)).pickφ [] rfl
      refine wpList_nil (qn ⟨hS, ?_⟩)
      refine wph_done (by kernel_rfl) ?_
      refine then_normal ?_
      refine wp_seq ?_
      refine wpr ?_
      refine wpl rfl rfl ht (ev_move ht rfl rfl) ?_
      intro a ht
      refine wpl rfl rfl ht (ev_assign ht rfl rfl) ?_
      intro a ht
      refine wpList_nil ?_
      refine then_normal ?_
      refine wp_ret ?_
      have hres := ht.res (P := Try.prog) (w := w) (rs := [.tmp 6]) (vs := [.int .i64 xs0_2]) (.tmp rfl .nil)
      obtain rfl := Option.some.inj H
      exact leave ht rfl hres ⟨rfl, ((hm.pick [3, 1, 4] rfl (by decide)).pickφ [] rfl).post fun _ h => h⟩

end Go.Proofs.Ytjhcacfhahpdgaa.G
