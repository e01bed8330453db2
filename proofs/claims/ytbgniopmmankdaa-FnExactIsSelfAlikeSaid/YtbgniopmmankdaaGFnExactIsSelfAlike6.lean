/- What each Go function computes, as a Lean function, and the proof that it does: written by a program of this session (wip/gen), part 6. -/
import Derived.Test.YtbgniopmmankdaaGFnExactIsSelfAlike5
namespace Go.Proofs.Ytbgniopmmankdaa.G
open Go Go.RowKit Go.Proofs.Ytbgniopmmankdaa.K
set_option linter.unusedVariables false
set_option linter.unusedSimpArgs false

/-! ### impl_made__Colouring_recoloured_1__Colouring_alike_1: function 76 (loop.example/g01362/impl.made) -/
mutual
def impl_made__Colouring_recoloured_1__Colouring_alike_1.l0 : Nat → Int → List Int → Col → Col → Int → Option (Col)
  | 0, _, _, _, _, _ => none
  | q6 + 1, n_, of, of2, xs0_1, xs0_2 => if xs0_2 < n_ then (impl_made__Colouring_recoloured_1__Colouring_alike_1.l1 q6 n_ of of2 xs0_2 xs0_1 0) else (some xs0_1)
def impl_made__Colouring_recoloured_1__Colouring_alike_1.l1 : Nat → Int → List Int → Col → Int → Col → Int → Option (Col)
  | 0, _, _, _, _, _, _ => none
  | q8 + 1, n_, of, of2, xs0_2, xs1_1, xs1_2 => if xs1_2 < xs0_2 then ((impl_Colouring_recoloured_1__Colouring_alike_1.f xs1_2 xs0_2 of of2).bind fun t10 => (impl_Colouring_put.f xs1_1 xs1_2 xs0_2 t10).bind fun t11 => impl_made__Colouring_recoloured_1__Colouring_alike_1.l1 q8 n_ of of2 xs0_2 t11 (w64 (xs1_2 + 1))) else (impl_made__Colouring_recoloured_1__Colouring_alike_1.l0 q8 n_ of of2 xs1_1 (w64 (xs0_2 + 1)))
end
def impl_made__Colouring_recoloured_1__Colouring_alike_1.f (k : Nat) (n_ : Int) (k_ : Int) (of : List Int) (of2 : Col) : Option (Col) := impl_made__Colouring_recoloured_1__Colouring_alike_1.l0 k n_ of of2 (Col.mk n_ k_ (fun _ => 0)) 0
set_option maxRecDepth 100000 in
set_option maxHeartbeats 20000000 in
theorem impl_made__Colouring_recoloured_1__Colouring_alike_1.calls (k : Nat) (X : List Nat) (w0 : World) (b : Nat) (b2 : Nat) (A : Option Addr) (c : Nat) (m : Nat) (b3 : Nat) (b4 : Nat) (n_ : Int) (k_ : Int) (of : List Int) (of2 : Col) (r : Col)
    (hp : Pre X w0 [.blk b 87 [.func (.func 74) [].toArray [.pointer (some ⟨b2, 0, none⟩)].toArray], .blk b2 43 [.slice A m c], .blk b3 50 [.pointer (some ⟨b4, 0, none⟩)], .blk b4 27 (Col.cells of2)] [IntsAt A c m of]) (H : impl_made__Colouring_recoloured_1__Colouring_alike_1.f k n_ k_ of of2 = some r) :
    Calls Try.prog 76 [.int .i64 n_, .int .i64 k_, .func (.func 77) [].toArray [.pointer (some ⟨b, 0, none⟩), .pointer (some ⟨b3, 0, none⟩)].toArray].toArray w0 (Ret fun v w => v = .agg (Col.cells r).toArray ∧ Post X (fps [.blk b 87 [.func (.func 74) [].toArray [.pointer (some ⟨b2, 0, none⟩)].toArray], .blk b2 43 [.slice A m c], .blk b3 50 [.pointer (some ⟨b4, 0, none⟩)], .blk b4 27 (Col.cells of2)]) w0 [.blk b 87 [.func (.func 74) [].toArray [.pointer (some ⟨b2, 0, none⟩)].toArray], .blk b2 43 [.slice A m c], .blk b3 50 [.pointer (some ⟨b4, 0, none⟩)], .blk b4 27 (Col.cells of2)] [] w) := by
  unfold impl_made__Colouring_recoloured_1__Colouring_alike_1.f at H
  refine enterM (n := 31) hp Try.func76 rfl rfl (Nat.le_of_ble_eq_true rfl) fun a w ht hm => ?_
  refine wp_seq ?_
  refine wpr ?_
  refine wpl_alloc rfl rfl ht hm rfl zo_27 ?_
  intro b1 a ht w hm
  refine wpList_nil ?_
  refine then_normal ?_
  refine wp_seq ?_
  refine wpr ?_
  refine wpl rfl rfl ht (ev_move ht rfl rfl) ?_
  intro a ht
  refine wpl rfl rfl ht (ev_move ht rfl rfl) ?_
  intro a ht
  refine wpl rfl rfl ht (ev_build ht rfl bi_27 rfl (fill_col _ _)) ?_
  intro a ht
  refine wpl_alloc rfl rfl ht hm rfl zo_27 ?_
  intro b5 a ht w hm
  refine wpl_store_whole 0 rfl rfl ht hm rfl rfl rfl (szn_27.trans (by first | rw [Col.length_cells] | rfl)) rfl (by simp only [Col.length_cells]) (Col.cells_one _) ?_
  intro a ht w hm
  refine wpList_nil ?_
  refine then_normal ?_
  refine wp_seq ?_
  refine wp_seq ?_
  refine wpr ?_
  refine wpl rfl rfl ht (ev_move ht rfl rfl) ?_
  intro a ht
  refine wpl rfl rfl ht (ev_move ht rfl rfl) ?_
  intro a ht
  refine wpList_nil ?_
  refine then_normal ?_
  refine wp_block ?_
  refine wpLoop (fun q a w => ∃ (xs0_1 : Col) (xs0_2 : Int), impl_made__Colouring_recoloured_1__Colouring_alike_1.l0 q n_ of of2 xs0_1 xs0_2 = some r ∧ q ≤ k ∧ Tm 31 [(2, .func (.func 77) [].toArray [.pointer (some ⟨b, 0, none⟩), .pointer (some ⟨b3, 0, none⟩)].toArray), (6, .pointer (some ⟨b1, 0, none⟩)), (7, .pointer (some ⟨b5, 0, none⟩)), (13, .int .i64 n_), (14, .int .i64 xs0_2)] a ∧ Ms X (fps [.blk b 87 [.func (.func 74) [].toArray [.pointer (some ⟨b2, 0, none⟩)].toArray], .blk b2 43 [.slice A m c], .blk b3 50 [.pointer (some ⟨b4, 0, none⟩)], .blk b4 27 (Col.cells of2)]) w0 [.blk b5 27 (Col.cells xs0_1), .blk b1 27 (Col.cells Col.zero), .blk b 87 [.func (.func 74) [].toArray [.pointer (some ⟨b2, 0, none⟩)].toArray], .blk b2 43 [.slice A m c], .blk b3 50 [.pointer (some ⟨b4, 0, none⟩)], .blk b4 27 (Col.cells of2)] [IntsAt A c m of] w) (k0 := k) ⟨(Col.mk n_ k_ (fun _ => 0)), 0, H, Nat.le_refl _, ht.sub ⟨rfl, rfl, rfl, rfl, rfl, trivial⟩, (hm.pick [0, 1, 2, 3, 4, 5] rfl (by decide)).pickφ [0] rfl⟩ ?_
  clear H ht hm
  intro q6 a w hJ
  obtain ⟨xs0_1, xs0_2, H, hqq6, ht, hm⟩ := hJ
  cases q6 with
  | zero => cases H
  | succ q6 =>
  rw [impl_made__Colouring_recoloured_1__Colouring_alike_1.l0] at H
  refine wp_seq ?_
  refine wpr ?_
  refine wpl rfl rfl ht (ev_cmp ht rfl rfl rfl rfl) ?_
  intro a ht
  refine wpList_nil ?_
  refine then_normal ?_
  refine wp_seq ?_
  by_cases h7 : xs0_2 < n_
  · replace H := ite_yes h7 H
    refine wpc_yes ht rfl (decide_eq_true h7) ?_
    refine wp_skip ?_
    refine then_normal ?_
    refine wp_seq ?_
    refine wp_block ?_
    refine wp_seq ?_
    refine wpr ?_
    refine wpl rfl rfl ht (ev_move ht rfl rfl) ?_
    intro a ht
    refine wpl rfl rfl ht (ev_assign ht rfl rfl) ?_
    intro a ht
    refine wpList_nil ?_
    refine then_normal ?_
    refine wp_seq ?_
    refine wpr ?_
    refine wpl rfl rfl ht (ev_move ht rfl rfl) ?_
    intro a ht
    refine wpl rfl rfl ht (ev_move ht rfl rfl) ?_
    intro a ht
    refine wpList_nil ?_
    refine then_normal ?_
    refine wp_block ?_
    refine wpLoop (fun q a w => ∃ (xs1_1 : Col) (xs1_2 : Int), impl_made__Colouring_recoloured_1__Colouring_alike_1.l1 q n_ of of2 xs0_2 xs1_1 xs1_2 = some r ∧ q ≤ q6 ∧ Tm 31 [(2, .func (.func 77) [].toArray [.pointer (some ⟨b, 0, none⟩), .pointer (some ⟨b3, 0, none⟩)].toArray), (6, .pointer (some ⟨b1, 0, none⟩)), (7, .pointer (some ⟨b5, 0, none⟩)), (8, .int .i64 xs0_2), (13, .int .i64 n_), (14, .int .i64 xs0_2), (15, .bool (decide (xs0_2 < n_))), (16, .int .i64 xs0_2), (17, .int .i64 xs0_2), (18, .int .i64 xs1_2)] a ∧ Ms X (fps [.blk b 87 [.func (.func 74) [].toArray [.pointer (some ⟨b2, 0, none⟩)].toArray], .blk b2 43 [.slice A m c], .blk b3 50 [.pointer (some ⟨b4, 0, none⟩)], .blk b4 27 (Col.cells of2)]) w0 [.blk b5 27 (Col.cells xs1_1), .blk b1 27 (Col.cells Col.zero), .blk b 87 [.func (.func 74) [].toArray [.pointer (some ⟨b2, 0, none⟩)].toArray], .blk b2 43 [.slice A m c], .blk b3 50 [.pointer (some ⟨b4, 0, none⟩)], .blk b4 27 (Col.cells of2)] [IntsAt A c m of] w) (k0 := q6) ⟨xs0_1, 0, H, Nat.le_refl _, ht.sub ⟨rfl, rfl, rfl, rfl, rfl, rfl, rfl, rfl, rfl, rfl, trivial⟩, (hm.pick [0, 1, 2, 3, 4, 5] rfl (by decide)).pickφ [0] rfl⟩ ?_
    clear H ht hm
    intro q8 a w hJ
    obtain ⟨xs1_1, xs1_2, H, hqq8, ht, hm⟩ := hJ
    cases q8 with
    | zero => cases H
    | succ q8 =>
    rw [impl_made__Colouring_recoloured_1__Colouring_alike_1.l1] at H
    refine wp_seq ?_
    refine wpr ?_
    refine wpl rfl rfl ht (ev_cmp ht rfl rfl rfl rfl) ?_
    intro a ht
    refine wpList_nil ?_
    refine then_normal ?_
    refine wp_seq ?_
    by_cases h9 : xs1_2 < xs0_2
    · replace H := ite_yes h9 H
      refine wpc_yes ht rfl (decide_eq_true h9) ?_
      refine wp_skip ?_
      refine then_normal ?_
      refine wp_seq ?_
      refine wp_block ?_
      refine wp_seq ?_
      refine wpr ?_
      refine wpl rfl rfl ht (ev_move ht rfl rfl) ?_
      intro a ht
      refine wpl rfl rfl ht (ev_assign ht rfl rfl) ?_
      intro a ht
      refine wpList_nil ?_
      refine then_normal ?_
      refine wpr ?_
      refine wpl rfl rfl ht (ev_move ht rfl rfl) ?_
      intro a ht
      refine wpl rfl rfl ht (ev_move ht rfl rfl) ?_
      intro a ht
      refine wpl rfl rfl ht (ev_move ht rfl rfl) ?_
      intro a ht
      refine wpl rfl rfl ht (ev_move ht rfl rfl) ?_
      intro a ht
      refine wpl rfl rfl ht (ev_move ht rfl rfl) ?_
      intro a ht
      obtain ⟨t10, et10, H⟩ := bind_get H
      have hcall := impl_Colouring_recoloured_1__Colouring_alike_1.calls _ _ b b2 A c m b3 b4 xs1_2 xs0_2 of of2 _ ((fun (hq : Ms _ _ _ ([.blk b 87 [.func (.func 74) [].toArray [.pointer (some ⟨b2, 0, none⟩)].toArray], .blk b2 43 [.slice A m c], .blk b3 50 [.pointer (some ⟨b4, 0, none⟩)], .blk b4 27 (Col.cells of2)] ++ [.blk b5 27 (Col.cells xs1_1), .blk b1 27 (Col.cells Col.zero)]) _ _) => hq.lend (φp := [IntsAt A c m of]) (allRO_cons (hq.lendFact 0 rfl) (allRO_nil))) (hm.pick (own' := [.blk b 87 [.func (.func 74) [].toArray [.pointer (some ⟨b2, 0, none⟩)].toArray], .blk b2 43 [.slice A m c], .blk b3 50 [.pointer (some ⟨b4, 0, none⟩)], .blk b4 27 (Col.cells of2)] ++ [.blk b5 27 (Col.cells xs1_1), .blk b1 27 (Col.cells Col.zero)]) [2, 3, 4, 5, 0, 1] rfl (by decide))) et10
      refine wpl_call _ rfl rfl ht rfl rfl rfl rfl can_77 hcall ?_
      clear hcall
      rintro _ w ⟨rfl, hpost⟩ a ht
      replace hm := (hm.pick (own' := [.blk b 87 [.func (.func 74) [].toArray [.pointer (some ⟨b2, 0, none⟩)].toArray], .blk b2 43 [.slice A m c], .blk b3 50 [.pointer (some ⟨b4, 0, none⟩)], .blk b4 27 (Col.cells of2)] ++ [.blk b5 27 (Col.cells xs1_1), .blk b1 27 (Col.cells Col.zero)]) [2, 3, 4, 5, 0, 1] rfl (by decide)).backL hpost
      clear hpost
      obtain ⟨t11, et11, H⟩ := bind_get H
      have hcall := impl_Colouring_put.calls _ _ b5 xs1_1 xs1_2 xs0_2 t10 _ ((fun (hq : Ms _ _ _ ([.blk b5 27 (Col.cells xs1_1)] ++ [.blk b 87 [.func (.func 74) [].toArray [.pointer (some ⟨b2, 0, none⟩)].toArray], .blk b2 43 [.slice A m c], .blk b3 50 [.pointer (some ⟨b4, 0, none⟩)], .blk b4 27 (Col.cells of2), .blk b1 27 (Col.cells Col.zero)]) _ _) => hq.lend (φp := []) (allRO_nil)) (hm.pick (own' := [.blk b5 27 (Col.cells xs1_1)] ++ [.blk b 87 [.func (.func 74) [].toArray [.pointer (some ⟨b2, 0, none⟩)].toArray], .blk b2 43 [.slice A m c], .blk b3 50 [.pointer (some ⟨b4, 0, none⟩)], .blk b4 27 (Col.cells of2), .blk b1 27 (Col.cells Col.zero)]) [4, 0, 1, 2, 3, 5] rfl (by decide))) et11
      refine wpl_call _ rfl rfl ht rfl rfl rfl rfl can_56 hcall ?_
      clear hcall
      rintro _ w ⟨rfl, hpost⟩ a ht
      replace hm := (hm.pick (own' := [.blk b5 27 (Col.cells xs1_1)] ++ [.blk b 87 [.func (.func 74) [].toArray [.pointer (some ⟨b2, 0, none⟩)].toArray], .blk b2 43 [.slice A m c], .blk b3 50 [.pointer (some ⟨b4, 0, none⟩)], .blk b4 27 (Col.cells of2), .blk b1 27 (Col.cells Col.zero)]) [4, 0, 1, 2, 3, 5] rfl (by decide)).backL hpost
      clear hpost
      refine wpList_nil ?_
      refine blk_normal ?_
      refine then_normal ?_
      refine wpr ?_
      refine wpl rfl rfl ht (ev_arith ht rfl rfl rfl rfl) ?_
      intro a ht
      refine wpl rfl rfl ht (ev_move ht rfl rfl) ?_
      intro a ht
      refine wpList_nil ?_
      exact then_normal ⟨q8, by omega, t11, (w64 (xs1_2 + 1)), H, by omega, ht.sub ⟨rfl, rfl, rfl, rfl, rfl, rfl, rfl, rfl, rfl, rfl, trivial⟩, (hm.pick [0, 5, 1, 2, 3, 4] rfl (by decide)).pickφ [0] rfl⟩
    · replace H := ite_no h9 H
      refine wpc_no ht rfl (decide_eq_false h9) ?_
      refine wp_exit ?_
      refine then_exit ?_
      refine then_exit ?_
      refine blk_hit ?_
      refine blk_normal ?_
      refine then_normal ?_
      refine wpr ?_
      refine wpl rfl rfl ht (ev_arith ht rfl rfl rfl rfl) ?_
      intro a ht
      refine wpl rfl rfl ht (ev_move ht rfl rfl) ?_
      intro a ht
      refine wpList_nil ?_
      exact then_normal ⟨q8, by omega, xs1_1, (w64 (xs0_2 + 1)), H, by omega, ht.sub ⟨rfl, rfl, rfl, rfl, rfl, trivial⟩, (hm.pick [0, 1, 2, 3, 4, 5] rfl (by decide)).pickφ [0] rfl⟩
  · replace H := ite_no h7 H
    refine wpc_no ht rfl (decide_eq_false h7) ?_
    refine wp_exit ?_
    refine then_exit ?_
    refine then_exit ?_
    refine blk_hit ?_
    refine then_normal ?_
    refine wp_seq ?_
    refine wpr ?_
    refine wpl rfl rfl ht (ev_load_agg ht rfl rfl (ag_27.trans (by first | rw [Col.length_cells] | rfl)) (hm.blk_all 0 rfl)) ?_
    intro a ht
    refine wpl_store_whole 1 rfl rfl ht hm rfl rfl rfl (szn_27.trans (by first | rw [Col.length_cells] | rfl)) rfl (by simp only [Col.length_cells]) (Col.cells_one _) ?_
    intro a ht w hm
    refine wpList_nil ?_
    refine then_normal ?_
    refine wp_ret ?_
    have hres := ht.res (P := Try.prog) (w := w) (rs := [.cell 6 27]) (vs := [.agg (Col.cells xs0_1).toArray]) (.agg rfl (ag_27.trans (by first | rw [Col.length_cells] | rfl)) (hm.blk_all 1 rfl) .nil)
    obtain rfl := Option.some.inj H
    exact leave ht rfl hres ⟨rfl, ((hm.pick [2, 3, 4, 5] rfl (by decide)).pickφ [] rfl).post fun _ h => h⟩

/-! ### impl_Colouring_recoloured__Colouring_alike_1: function 73 ((*loop.example/g01362/impl.Colouring).recoloured) -/
def impl_Colouring_recoloured__Colouring_alike_1.f (k : Nat) (x : Col) (k_ : Int) (of : List Int) : Option (Col) := (impl_made__Colouring_recoloured_1__Colouring_alike_1.f k x.p k_ of x).bind fun t5 => some t5
set_option maxRecDepth 100000 in
set_option maxHeartbeats 20000000 in
theorem impl_Colouring_recoloured__Colouring_alike_1.calls (k : Nat) (X : List Nat) (w0 : World) (b : Nat) (b2 : Nat) (A : Option Addr) (c : Nat) (m : Nat) (x : Col) (k_ : Int) (of : List Int) (r : Col)
    (hp : Pre X w0 [.blk b 27 (Col.cells x), .blk b2 43 [.slice A m c]] [IntsAt A c m of]) (H : impl_Colouring_recoloured__Colouring_alike_1.f k x k_ of = some r) :
    Calls Try.prog 73 [.pointer (some ⟨b, 0, none⟩), .int .i64 k_, .func (.func 74) [].toArray [.pointer (some ⟨b2, 0, none⟩)].toArray].toArray w0 (Ret fun v w => v = .agg (Col.cells r).toArray ∧ Post X (fps [.blk b 27 (Col.cells x), .blk b2 43 [.slice A m c]]) w0 [.blk b 27 (Col.cells x), .blk b2 43 [.slice A m c]] [] w) := by
  unfold impl_Colouring_recoloured__Colouring_alike_1.f at H
  refine enterM (n := 14) hp Try.func73 rfl rfl (Nat.le_of_ble_eq_true rfl) fun a w ht hm => ?_
  refine wp_seq ?_
  refine wpr ?_
  refine wpl_box rfl rfl ht hm rfl rfl rfl ?_
  intro b1 a ht w hm
  refine wpl_box rfl rfl ht hm rfl rfl rfl ?_
  intro b3 a ht w hm
  refine wpl_alloc rfl rfl ht hm rfl zo_27 ?_
  intro b4 a ht w hm
  refine wpList_nil ?_
  refine then_normal ?_
  refine wp_seq ?_
  refine wpr ?_
  refine wpl rfl rfl ht (ev_load ht rfl rfl sc_50 (hm.blk_cell 2 rfl rfl)) ?_
  intro a ht
  refine wpl rfl rfl ht (ev_nilCheck ht rfl rfl) ?_
  intro a ht
  refine wpl rfl rfl ht (ev_fieldAddr ht rfl rfl fo_27_0) ?_
  intro a ht
  refine wpl rfl rfl ht (ev_load ht rfl rfl sc_2 (hm.blk_cell 3 rfl rfl)) ?_
  intro a ht
  refine wpl rfl rfl ht (ev_move ht rfl rfl) ?_
  intro a ht
  refine wpl rfl rfl ht (ev_makeFunc ht rfl rfl rfl) ?_
  intro a ht
  obtain ⟨t5, et5, H⟩ := bind_get H
  have hcall := impl_made__Colouring_recoloured_1__Colouring_alike_1.calls k _ _ b3 b2 A c m b1 b x.p k_ of x _ ((fun (hq : Ms _ _ _ ([.blk b3 87 [.func (.func 74) [].toArray [.pointer (some ⟨b2, 0, none⟩)].toArray], .blk b2 43 [.slice A m c], .blk b1 50 [.pointer (some ⟨b, 0, none⟩)], .blk b 27 (Col.cells x)] ++ [.blk b4 27 (Col.cells Col.zero)]) _ _) => hq.lend (φp := [IntsAt A c m of]) (allRO_cons (hq.lendFact 0 rfl) (allRO_nil))) (hm.pick (own' := [.blk b3 87 [.func (.func 74) [].toArray [.pointer (some ⟨b2, 0, none⟩)].toArray], .blk b2 43 [.slice A m c], .blk b1 50 [.pointer (some ⟨b, 0, none⟩)], .blk b 27 (Col.cells x)] ++ [.blk b4 27 (Col.cells Col.zero)]) [1, 4, 2, 3, 0] rfl (by decide))) et5
  refine wpl_call _ rfl rfl ht rfl rfl rfl rfl can_76 hcall ?_
  clear hcall
  rintro _ w ⟨rfl, hpost⟩ a ht
  replace hm := (hm.pick (own' := [.blk b3 87 [.func (.func 74) [].toArray [.pointer (some ⟨b2, 0, none⟩)].toArray], .blk b2 43 [.slice A m c], .blk b1 50 [.pointer (some ⟨b, 0, none⟩)], .blk b 27 (Col.cells x)] ++ [.blk b4 27 (Col.cells Col.zero)]) [1, 4, 2, 3, 0] rfl (by decide)).backL hpost
  clear hpost
  refine wpl_store_whole 4 rfl rfl ht hm rfl rfl rfl (szn_27.trans (by first | rw [Col.length_cells] | rfl)) rfl (by simp only [Col.length_cells]) (Col.cells_one _) ?_
  intro a ht w hm
  refine wpList_nil ?_
  refine then_normal ?_
  refine wp_ret ?_
  have hres := ht.res (P := Try.prog) (w := w) (rs := [.cell 6 27]) (vs := [.agg (Col.cells t5).toArray]) (.agg rfl (ag_27.trans (by first | rw [Col.length_cells] | rfl)) (hm.blk_all 4 rfl) .nil)
  obtain rfl := Option.some.inj H
  exact leave ht rfl hres ⟨rfl, ((hm.pick [3, 1] rfl (by decide)).pickφ [] rfl).post fun _ h => h⟩

/-! ### impl_Colouring_points_1: function 69 ((*loop.example/g01362/impl.Colouring).points$1) -/
def impl_Colouring_points_1.f (x : Int) : Option (Bool) := some true
set_option maxRecDepth 100000 in
set_option maxHeartbeats 20000000 in
theorem impl_Colouring_points_1.calls (X : List Nat) (w0 : World)  (x : Int) (r : Bool)
    (hp : Pre X w0 [] []) (H : impl_Colouring_points_1.f x = some r) :
    Calls Try.prog 69 [.int .i64 x].toArray w0 (Ret fun v w => v = .bool r ∧ Post X (fps []) w0 [] [] w) := by
  unfold impl_Colouring_points_1.f at H
  refine enterM (n := 3) hp Try.func69 rfl rfl (Nat.le_of_ble_eq_true rfl) fun a w ht hm => ?_
  refine wp_seq ?_
  refine wpr ?_
  refine wpl rfl rfl ht (ev_assign ht rfl rfl) ?_
  intro a ht
  refine wpList_nil ?_
  refine then_normal ?_
  refine wp_seq ?_
  refine wpr ?_
  refine wpl rfl rfl ht (ev_assign ht rfl rfl) ?_
  intro a ht
  refine wpList_nil ?_
  refine then_normal ?_
  refine wp_ret ?_
  have hres := ht.res (P := Try.prog) (w := w) (rs := [.tmp 2]) (vs := [.bool true]) (.tmp rfl .nil)
  obtain rfl := Option.some.inj H
  exact leave ht rfl hres ⟨rfl, ((hm.pick [] rfl (by decide)).pickφ [] rfl).post fun _ h => h⟩

/-! ### impl_Colouring_that__Colouring_points_1: function 60 ((*loop.example/g01362/impl.Colouring).that) -/
def impl_Colouring_that__Colouring_points_1.l0 : Nat → Col → List Int → Int → Option (List Int)
  | 0, _, _, _ => none
  | q2 + 1, x, ls0_4, xs0_5 => if xs0_5 < x.p then ((impl_Colouring_points_1.f xs0_5).bind fun t4 => if t4 = true then ((push ls0_4 xs0_5).bind fun l10 => impl_Colouring_that__Colouring_points_1.l0 q2 x l10 (w64 (xs0_5 + 1))) else (impl_Colouring_that__Colouring_points_1.l0 q2 x ls0_4 (w64 (xs0_5 + 1)))) else (some ls0_4)
def impl_Colouring_that__Colouring_points_1.f (k : Nat) (x : Col) : Option (List Int) := impl_Colouring_that__Colouring_points_1.l0 k x ([] : List Int) 0
set_option maxRecDepth 100000 in
set_option maxHeartbeats 20000000 in
theorem impl_Colouring_that__Colouring_points_1.calls (k : Nat) (X : List Nat) (w0 : World) (b : Nat) (x : Col) (r : List Int)
    (hp : Pre X w0 [.blk b 27 (Col.cells x)] []) (H : impl_Colouring_that__Colouring_points_1.f k x = some r) :
    Calls Try.prog 60 [.pointer (some ⟨b, 0, none⟩), .func (.func 69) #[] #[]].toArray w0 (Ret fun v w => ∃ (A_0 : Option Addr) (c_0 : Nat) (n_0 : Nat), v = .slice A_0 n_0 c_0 ∧ Post X (fps [.blk b 27 (Col.cells x)]) w0 [.vec A_0 c_0 2 1 n_0 (ints r), .blk b 27 (Col.cells x)] [] w) := by
  unfold impl_Colouring_that__Colouring_points_1.f at H
  refine enterM (n := 24) hp Try.func60 rfl rfl (Nat.le_of_ble_eq_true rfl) fun a w ht hm => ?_
  refine wp_seq ?_
  refine wpr ?_
  refine wpl rfl rfl ht (ev_assign ht rfl rfl) ?_
  intro a ht
  refine wpList_nil ?_
  refine then_normal ?_
  refine wp_seq ?_
  refine wpr ?_
  refine wpl_build_ints (l := ([] : List Int)) rfl rfl ht hm rfl und_43 zo_2 sz1_2 (by decide) rfl rfl rfl ?_
  intro A1 a ht w hm
  refine wpl rfl rfl ht (ev_assign ht rfl rfl) ?_
  intro a ht
  refine wpList_nil ?_
  refine then_normal ?_
  refine wp_seq ?_
  refine wp_seq ?_
  refine wpr ?_
  refine wpl rfl rfl ht (ev_move ht rfl rfl) ?_
  intro a ht
  refine wpl rfl rfl ht (ev_nilCheck ht rfl rfl) ?_
  intro a ht
  refine wpl rfl rfl ht (ev_fieldAddr ht rfl rfl fo_27_0) ?_
  intro a ht
  refine wpl rfl rfl ht (ev_load ht rfl rfl sc_2 (hm.blk_cell 1 rfl rfl)) ?_
  intro a ht
  refine wpl rfl rfl ht (ev_move ht rfl rfl) ?_
  intro a ht
  refine wpList_nil ?_
  refine then_normal ?_
  refine wp_block ?_
  refine wpLoop (fun q a w => ∃ (ls0_4 : List Int) (xs0_5 : Int) (As0_1 : Option Addr) (cs0_2 : Nat) (ms0_3 : Nat), impl_Colouring_that__Colouring_points_1.l0 q x ls0_4 xs0_5 = some r ∧ q ≤ k ∧ Tm 24 [(1, .func (.func 69) #[] #[]), (4, .slice none 0 0), (5, .slice As0_1 ms0_3 cs0_2), (11, .int .i64 x.p), (12, .int .i64 xs0_5)] a ∧ Ms X (fps [.blk b 27 (Col.cells x)]) w0 [.vec As0_1 cs0_2 2 1 ms0_3 (ints ls0_4), .blk b 27 (Col.cells x)] [] w) (k0 := k) ⟨([] : List Int), 0, A1, 0, 0, H, Nat.le_refl _, ht.sub ⟨rfl, rfl, rfl, rfl, rfl, trivial⟩, (hm.pick [0, 1] rfl (by decide)).pickφ [] rfl⟩ ?_
  clear H ht hm
  intro q2 a w hJ
  obtain ⟨ls0_4, xs0_5, As0_1, cs0_2, ms0_3, H, hqq2, ht, hm⟩ := hJ
  cases q2 with
  | zero => cases H
  | succ q2 =>
  rw [impl_Colouring_that__Colouring_points_1.l0] at H
  refine wp_seq ?_
  refine wpr ?_
  refine wpl rfl rfl ht (ev_cmp ht rfl rfl rfl rfl) ?_
  intro a ht
  refine wpList_nil ?_
  refine then_normal ?_
  refine wp_seq ?_
  by_cases h3 : xs0_5 < x.p
  · replace H := ite_yes h3 H
    refine wpc_yes ht rfl (decide_eq_true h3) ?_
    refine wp_skip ?_
    refine then_normal ?_
    refine wp_seq ?_
    refine wp_block ?_
    refine wp_seq ?_
    refine wpr ?_
    refine wpl rfl rfl ht (ev_move ht rfl rfl) ?_
    intro a ht
    refine wpl rfl rfl ht (ev_assign ht rfl rfl) ?_
    intro a ht
    refine wpList_nil ?_
    refine then_normal ?_
    refine wp_seq ?_
    refine wpr ?_
    refine wpl rfl rfl ht (ev_move ht rfl rfl) ?_
    intro a ht
    refine wpl rfl rfl ht (ev_move ht rfl rfl) ?_
    intro a ht
    obtain ⟨t4, et4, H⟩ := bind_get H
    have hcall := impl_Colouring_points_1.calls _ _ xs0_5 _ ((fun (hq : Ms _ _ _ ([] ++ [.vec As0_1 cs0_2 2 1 ms0_3 (ints ls0_4), .blk b 27 (Col.cells x)]) _ _) => hq.lend (φp := []) (allRO_nil)) (hm.pick (own' := [] ++ [.vec As0_1 cs0_2 2 1 ms0_3 (ints ls0_4), .blk b 27 (Col.cells x)]) [0, 1] rfl (by decide))) et4
    refine wpl_call _ rfl rfl ht rfl rfl rfl rfl can_69 hcall ?_
    clear hcall
    rintro _ w ⟨rfl, hpost⟩ a ht
    replace hm := (hm.pick (own' := [] ++ [.vec As0_1 cs0_2 2 1 ms0_3 (ints ls0_4), .blk b 27 (Col.cells x)]) [0, 1] rfl (by decide)).backL hpost
    clear hpost
    refine wpList_nil ?_
    refine then_normal ?_
    by_cases h5 : t4 = true
    · replace H := ite_yes h5 H
      refine wpc_yes ht rfl h5 ?_
      refine wpr ?_
      refine wpl rfl rfl ht (ev_move ht rfl rfl) ?_
      intro a ht
      refine wpl rfl rfl ht (ev_move ht rfl rfl) ?_
      intro a ht
      refine wpl_build_ints (l := [xs0_5]) rfl rfl ht hm rfl und_43 zo_2 sz1_2 (by decide) rfl rfl rfl ?_
      intro A6 a ht w hm
      obtain ⟨l10, el10, H⟩ := bind_get H
      refine wpl_push (r := l10) 1 0 rfl rfl ht hm rfl ap_43 rfl rfl rfl rfl el10 ?_
      intro A7 c8 m9 a ht w hm
      refine wpl rfl rfl ht (ev_assign ht rfl rfl) ?_
      intro a ht
      refine wpList_nil ?_
      refine blk_normal ?_
      refine then_normal ?_
      refine wpr ?_
      refine wpl rfl rfl ht (ev_arith ht rfl rfl rfl rfl) ?_
      intro a ht
      refine wpl rfl rfl ht (ev_move ht rfl rfl) ?_
      intro a ht
      refine wpList_nil ?_
      exact then_normal ⟨q2, by omega, l10, (w64 (xs0_5 + 1)), A7, c8, m9, H, by omega, ht.sub ⟨rfl, rfl, rfl, rfl, rfl, trivial⟩, (hm.pick [1, 2] rfl (by decide)).pickφ [] rfl⟩
    · replace H := ite_no h5 H
      refine wpc_no ht rfl (Bool.eq_false_iff.mpr h5) ?_
      refine wp_skip ?_
      refine blk_normal ?_
      refine then_normal ?_
      refine wpr ?_
      refine wpl rfl rfl ht (ev_arith ht rfl rfl rfl rfl) ?_
      intro a ht
      refine wpl rfl rfl ht (ev_move ht rfl rfl) ?_
      intro a ht
      refine wpList_nil ?_
      exact then_normal ⟨q2, by omega, ls0_4, (w64 (xs0_5 + 1)), As0_1, cs0_2, ms0_3, H, by omega, ht.sub ⟨rfl, rfl, rfl, rfl, rfl, trivial⟩, (hm.pick [0, 1] rfl (by decide)).pickφ [] rfl⟩
  · replace H := ite_no h3 H
    refine wpc_no ht rfl (decide_eq_false h3) ?_
    refine wp_exit ?_
    refine then_exit ?_
    refine then_exit ?_
    refine blk_hit ?_
    refine then_normal ?_
    refine wp_seq ?_
    refine wpr ?_
    refine wpl rfl rfl ht (ev_move ht rfl rfl) ?_
    intro a ht
    refine wpl rfl rfl ht (ev_assign ht rfl rfl) ?_
    intro a ht
    refine wpList_nil ?_
    refine then_normal ?_
    refine wp_ret ?_
    have hres := ht.res (P := Try.prog) (w := w) (rs := [.tmp 4]) (vs := [.slice As0_1 ms0_3 cs0_2]) (.tmp rfl .nil)
    obtain rfl := Option.some.inj H
    exact leave ht rfl hres ⟨As0_1, cs0_2, ms0_3, rfl, ((hm.pick [0, 1] rfl (by decide)).pickφ [] rfl).post fun _ h => h⟩

/-! ### impl_Colouring_points: function 48 ((*loop.example/g01362/impl.Colouring).points) -/
def impl_Colouring_points.f (k : Nat) (x : Col) : Option (List Int) := (impl_Colouring_that__Colouring_points_1.f k x).bind fun t1 => some t1
set_option maxRecDepth 100000 in
set_option maxHeartbeats 20000000 in
theorem impl_Colouring_points.calls (k : Nat) (X : List Nat) (w0 : World) (b : Nat) (x : Col) (r : List Int)
    (hp : Pre X w0 [.blk b 27 (Col.cells x)] []) (H : impl_Colouring_points.f k x = some r) :
    Calls Try.prog 48 [.pointer (some ⟨b, 0, none⟩)].toArray w0 (Ret fun v w => ∃ (A_0 : Option Addr) (c_0 : Nat) (n_0 : Nat), v = .slice A_0 n_0 c_0 ∧ Post X (fps [.blk b 27 (Col.cells x)]) w0 [.vec A_0 c_0 2 1 n_0 (ints r), .blk b 27 (Col.cells x)] [] w) := by
  unfold impl_Colouring_points.f at H
  refine enterM (n := 5) hp Try.func48 rfl rfl (Nat.le_of_ble_eq_true rfl) fun a w ht hm => ?_
  refine wp_seq ?_
  refine wpr ?_
  refine wpl rfl rfl ht (ev_assign ht rfl rfl) ?_
  intro a ht
  refine wpList_nil ?_
  refine then_normal ?_
  refine wp_seq ?_
  refine wpr ?_
  refine wpl rfl rfl ht (ev_move ht rfl rfl) ?_
  intro a ht
  obtain ⟨t1, et1, H⟩ := bind_get H
  have hcall := impl_Colouring_that__Colouring_points_1.calls k _ _ b x _ ((fun (hq : Ms _ _ _ ([.blk b 27 (Col.cells x)] ++ []) _ _) => hq.lend (φp := []) (allRO_nil)) (hm.pick (own' := [.blk b 27 (Col.cells x)] ++ []) [0] rfl (by decide))) et1
  refine wpl_call _ rfl rfl ht rfl rfl rfl rfl can_60 hcall ?_
  clear hcall
  rintro _ w ⟨A2, c3, m4, rfl, hpost⟩ a ht
  replace hm := (hm.pick (own' := [.blk b 27 (Col.cells x)] ++ []) [0] rfl (by decide)).backL hpost
  clear hpost
  refine wpl rfl rfl ht (ev_assign ht rfl rfl) ?_
  intro a ht
  refine wpList_nil ?_
  refine then_normal ?_
  refine wp_ret ?_
  have hres := ht.res (P := Try.prog) (w := w) (rs := [.tmp 2]) (vs := [.slice A2 m4 c3]) (.tmp rfl .nil)
  obtain rfl := Option.some.inj H
  exact leave ht rfl hres ⟨A2, c3, m4, rfl, ((hm.pick [0, 1] rfl (by decide)).pickφ [] rfl).post fun _ h => h⟩

/-! ### impl_Colouring_degreesAt: function 68 ((*loop.example/g01362/impl.Colouring).degreesAt) -/
def impl_Colouring_degreesAt.l0 : Nat → Col → Int → List Int → Int → Option (List Int)
  | 0, _, _, _, _ => none
  | q5 + 1, x, i, ls0_1, xs0_2 => if xs0_2 < x.p then (if xs0_2 ≠ i then ((impl_Colouring_at.f x i xs0_2).bind fun t8 => (getI ls0_1 t8).bind fun t9 => (getI ls0_1 t8).bind fun t10 => impl_Colouring_degreesAt.l0 q5 x i (ls0_1.set t8.toNat (w64 (t9 + 1))) (w64 (xs0_2 + 1))) else (impl_Colouring_degreesAt.l0 q5 x i ls0_1 (w64 (xs0_2 + 1)))) else (some ls0_1)
def impl_Colouring_degreesAt.f (k : Nat) (x : Col) (i : Int) : Option (List Int) := (guardO (0 ≤ x.k ∧ x.k ≤ 1073741824)).bind fun _ => impl_Colouring_degreesAt.l0 k x i (List.replicate x.k.toNat (0 : Int)) 0
set_option maxRecDepth 100000 in
set_option maxHeartbeats 20000000 in
theorem impl_Colouring_degreesAt.calls (k : Nat) (X : List Nat) (w0 : World) (b : Nat) (x : Col) (i : Int) (r : List Int)
    (hp : Pre X w0 [.blk b 27 (Col.cells x)] []) (H : impl_Colouring_degreesAt.f k x i = some r) :
    Calls Try.prog 68 [.pointer (some ⟨b, 0, none⟩), .int .i64 i].toArray w0 (Ret fun v w => ∃ (A_0 : Option Addr) (c_0 : Nat) (n_0 : Nat), v = .slice A_0 n_0 c_0 ∧ Post X (fps [.blk b 27 (Col.cells x)]) w0 [.vec A_0 c_0 2 1 n_0 (ints r), .blk b 27 (Col.cells x)] [] w) := by
  unfold impl_Colouring_degreesAt.f at H
  refine enterM (n := 33) hp Try.func68 rfl rfl (Nat.le_of_ble_eq_true rfl) fun a w ht hm => ?_
  refine wp_seq ?_
  refine wpr ?_
  refine wpl rfl rfl ht (ev_assign ht rfl rfl) ?_
  intro a ht
  refine wpList_nil ?_
  refine then_normal ?_
  refine wp_seq ?_
  refine wpr ?_
  refine wpl rfl rfl ht (ev_move ht rfl rfl) ?_
  intro a ht
  refine wpl rfl rfl ht (ev_nilCheck ht rfl rfl) ?_
  intro a ht
  refine wpl rfl rfl ht (ev_fieldAddr ht rfl rfl fo_27_1) ?_
  intro a ht
  refine wpl rfl rfl ht (ev_load ht rfl rfl sc_2 (hm.blk_cell 0 rfl rfl)) ?_
  intro a ht
  obtain ⟨u2, eu2, H⟩ := bind_get H
  refine wpl_make_ints rfl rfl ht hm rfl und_43 zo_2 sz1_2 by_2 rfl rfl (guardO_get eu2) ?_
  intro A1 m3 c4 a ht w hm
  refine wpl rfl rfl ht (ev_assign ht rfl rfl) ?_
  intro a ht
  refine wpList_nil ?_
  refine then_normal ?_
  refine wp_seq ?_
  refine wp_seq ?_
  refine wpr ?_
  refine wpl rfl rfl ht (ev_move ht rfl rfl) ?_
  intro a ht
  refine wpl rfl rfl ht (ev_nilCheck ht rfl rfl) ?_
  intro a ht
  refine wpl rfl rfl ht (ev_fieldAddr ht rfl rfl fo_27_0) ?_
  intro a ht
  refine wpl rfl rfl ht (ev_load ht rfl rfl sc_2 (hm.blk_cell 1 rfl rfl)) ?_
  intro a ht
  refine wpl rfl rfl ht (ev_move ht rfl rfl) ?_
  intro a ht
  refine wpList_nil ?_
  refine then_normal ?_
  refine wp_block ?_
  refine wpLoop (fun q a w => ∃ (ls0_1 : List Int) (xs0_2 : Int), impl_Colouring_degreesAt.l0 q x i ls0_1 xs0_2 = some r ∧ q ≤ k ∧ Tm 33 [(0, .pointer (some ⟨b, 0, none⟩)), (1, .int .i64 i), (4, .slice none 0 0), (5, .slice A1 m3 c4), (15, .int .i64 x.p), (16, .int .i64 xs0_2)] a ∧ Ms X (fps [.blk b 27 (Col.cells x)]) w0 [.vec A1 c4 2 1 m3 (ints ls0_1), .blk b 27 (Col.cells x)] [] w) (k0 := k) ⟨(List.replicate x.k.toNat (0 : Int)), 0, H, Nat.le_refl _, ht.sub ⟨rfl, rfl, rfl, rfl, rfl, rfl, trivial⟩, (hm.pick [0, 1] rfl (by decide)).pickφ [] rfl⟩ ?_
  clear H ht hm
  intro q5 a w hJ
  obtain ⟨ls0_1, xs0_2, H, hqq5, ht, hm⟩ := hJ
  cases q5 with
  | zero => cases H
  | succ q5 =>
  rw [impl_Colouring_degreesAt.l0] at H
  refine wp_seq ?_
  refine wpr ?_
  refine wpl rfl rfl ht (ev_cmp ht rfl rfl rfl rfl) ?_
  intro a ht
  refine wpList_nil ?_
  refine then_normal ?_
  refine wp_seq ?_
  by_cases h6 : xs0_2 < x.p
  · replace H := ite_yes h6 H
    refine wpc_yes ht rfl (decide_eq_true h6) ?_
    refine wp_skip ?_
    refine then_normal ?_
    refine wp_seq ?_
    refine wp_block ?_
    refine wp_seq ?_
    refine wpr ?_
    refine wpl rfl rfl ht (ev_move ht rfl rfl) ?_
    intro a ht
    refine wpl rfl rfl ht (ev_assign ht rfl rfl) ?_
    intro a ht
    refine wpList_nil ?_
    refine then_normal ?_
    refine wp_seq ?_
    refine wpr ?_
    refine wpl rfl rfl ht (ev_move ht rfl rfl) ?_
    intro a ht
    refine wpl rfl rfl ht (ev_move ht rfl rfl) ?_
    intro a ht
    refine wpl rfl rfl ht (ev_cmp ht rfl rfl rfl rfl) ?_
    intro a ht
    refine wpList_nil ?_
    refine then_normal ?_
    by_cases h7 : xs0_2 ≠ i
    · replace H := ite_yes h7 H
      refine wpc_yes ht rfl (decide_eq_true h7) ?_
      refine wpr ?_
      refine wpl rfl rfl ht (ev_move ht rfl rfl) ?_
      intro a ht
      refine wpl rfl rfl ht (ev_move ht rfl rfl) ?_
      intro a ht
      refine wpl rfl rfl ht (ev_move ht rfl rfl) ?_
      intro a ht
      refine wpl rfl rfl ht (ev_move ht rfl rfl) ?_
      intro a ht
      obtain ⟨t8, et8, H⟩ := bind_get H
      have hcall := impl_Colouring_at.calls _ _ b x i xs0_2 _ ((fun (hq : Ms _ _ _ ([.blk b 27 (Col.cells x)] ++ [.vec A1 c4 2 1 m3 (ints ls0_1)]) _ _) => hq.lend (φp := []) (allRO_nil)) (hm.pick (own' := [.blk b 27 (Col.cells x)] ++ [.vec A1 c4 2 1 m3 (ints ls0_1)]) [1, 0] rfl (by decide))) et8
      refine wpl_call _ rfl rfl ht rfl rfl rfl rfl can_57 hcall ?_
      clear hcall
      rintro _ w ⟨rfl, hpost⟩ a ht
      replace hm := (hm.pick (own' := [.blk b 27 (Col.cells x)] ++ [.vec A1 c4 2 1 m3 (ints ls0_1)]) [1, 0] rfl (by decide)).backL hpost
      clear hpost
      obtain ⟨t9, et9, H⟩ := bind_get H
      refine wpl rfl rfl ht (ev_index_ints ht rfl rfl rfl so_43 (hm.vec_row 1 rfl) et9) ?_
      intro a ht
      refine wpl rfl rfl ht (ev_load ht rfl rfl sc_2 (RowAt.cell (hm.vec_row 1 rfl) (ints_get et9) rfl)) ?_
      intro a ht
      refine wpl rfl rfl ht (ev_arith ht rfl rfl rfl rfl) ?_
      intro a ht
      obtain ⟨t10, et10, H⟩ := bind_get H
      refine wpl rfl rfl ht (ev_index_ints ht rfl rfl rfl so_43 (hm.vec_row 1 rfl) et10) ?_
      intro a ht
      refine wpl_store_int 1 rfl rfl ht hm rfl rfl rfl sz1_2 rfl et10 ?_
      intro a ht w hm
      refine wpList_nil ?_
      refine blk_normal ?_
      refine then_normal ?_
      refine wpr ?_
      refine wpl rfl rfl ht (ev_arith ht rfl rfl rfl rfl) ?_
      intro a ht
      refine wpl rfl rfl ht (ev_move ht rfl rfl) ?_
      intro a ht
      refine wpList_nil ?_
      exact then_normal ⟨q5, by omega, (ls0_1.set t8.toNat (w64 (t9 + 1))), (w64 (xs0_2 + 1)), H, by omega, ht.sub ⟨rfl, rfl, rfl, rfl, rfl, rfl, trivial⟩, (hm.pick [1, 0] rfl (by decide)).pickφ [] rfl⟩
    · replace H := ite_no h7 H
      refine wpc_no ht rfl (decide_eq_false h7) ?_
      refine wp_skip ?_
      refine blk_normal ?_
      refine then_normal ?_
      refine wpr ?_
      refine wpl rfl rfl ht (ev_arith ht rfl rfl rfl rfl) ?_
      intro a ht
      refine wpl rfl rfl ht (ev_move ht rfl rfl) ?_
      intro a ht
      refine wpList_nil ?_
      exact then_normal ⟨q5, by omega, ls0_1, (w64 (xs0_2 + 1)), H, by omega, ht.sub ⟨rfl, rfl, rfl, rfl, rfl, rfl, trivial⟩, (hm.pick [0, 1] rfl (by decide)).pickφ [] rfl⟩
  · replace H := ite_no h6 H
    refine wpc_no ht rfl (decide_eq_false h6) ?_
    refine wp_exit ?_
    refine then_exit ?_
    refine then_exit ?_
    refine blk_hit ?_
    refine then_normal ?_
    refine wp_seq ?_
    refine wpr ?_
    refine wpl rfl rfl ht (ev_move ht rfl rfl) ?_
    intro a ht
    refine wpl rfl rfl ht (ev_assign ht rfl rfl) ?_
    intro a ht
    refine wpList_nil ?_
    refine then_normal ?_
    refine wp_ret ?_
    have hres := ht.res (P := Try.prog) (w := w) (rs := [.tmp 4]) (vs := [.slice A1 m3 c4]) (.tmp rfl .nil)
    obtain rfl := Option.some.inj H
    exact leave ht rfl hres ⟨A1, c4, m3, rfl, ((hm.pick [0, 1] rfl (by decide)).pickφ [] rfl).post fun _ h => h⟩

/-! ### slices_Equal_int64_int64: function 67 (slices.Equal[[]int64,int64]) -/
def slices_Equal_int64_int64.l0 : Nat → List Int → List Int → Int → Option (Bool)
  | 0, _, _, _ => none
  | q2 + 1, s1, s2, xs0_1 => if xs0_1 < (s1.length : Int) then ((getI s1 xs0_1).bind fun t4 => (getI s2 xs0_1).bind fun t5 => if t4 ≠ t5 then (some false) else (slices_Equal_int64_int64.l0 q2 s1 s2 (w64 (xs0_1 + 1)))) else (some true)
def slices_Equal_int64_int64.f (k : Nat) (s1 : List Int) (s2 : List Int) : Option (Bool) := if (s1.length : Int) ≠ (s2.length : Int) then (some false) else (slices_Equal_int64_int64.l0 k s1 s2 0)
set_option maxRecDepth 100000 in
set_option maxHeartbeats 20000000 in
theorem slices_Equal_int64_int64.calls (k : Nat) (X : List Nat) (w0 : World) (A : Option Addr) (c : Nat) (m : Nat) (A2 : Option Addr) (c2 : Nat) (m2 : Nat) (s1 : List Int) (s2 : List Int) (r : Bool)
    (hp : Pre X w0 [] [IntsAt A c m s1, IntsAt A2 c2 m2 s2]) (H : slices_Equal_int64_int64.f k s1 s2 = some r) :
    Calls Try.prog 67 [.slice A m c, .slice A2 m2 c2].toArray w0 (Ret fun v w => v = .bool r ∧ Post X (fps []) w0 [] [] w) := by
  unfold slices_Equal_int64_int64.f at H
  refine enterM (n := 26) hp Try.func67 rfl rfl (Nat.le_of_ble_eq_true rfl) fun a w ht hm => ?_
  refine wp_seq ?_
  refine wpr ?_
  refine wpl rfl rfl ht (ev_assign ht rfl rfl) ?_
  intro a ht
  refine wpList_nil ?_
  refine then_normal ?_
  refine wp_seq ?_
  refine wp_seq ?_
  refine wpr ?_
  refine wpl rfl rfl ht (ev_move ht rfl rfl) ?_
  intro a ht
  refine wpl rfl rfl ht (ev_len_of ht rfl rfl und_43 (hm.fact (φ := IntsAt A c m s1) 0 rfl)) ?_
  intro a ht
  refine wpl rfl rfl ht (ev_move ht rfl rfl) ?_
  intro a ht
  refine wpl rfl rfl ht (ev_len_of ht rfl rfl und_43 (hm.fact (φ := IntsAt A2 c2 m2 s2) 1 rfl)) ?_
  intro a ht
  refine wpl rfl rfl ht (ev_cmp ht rfl rfl rfl rfl) ?_
  intro a ht
  refine wpList_nil ?_
  refine then_normal ?_
  by_cases h1 : (s1.length : Int) ≠ (s2.length : Int)
  · replace H := ite_yes h1 H
    refine wpc_yes ht rfl (decide_eq_true h1) ?_
    refine wp_seq ?_
    refine wpr ?_
    refine wpl rfl rfl ht (ev_assign ht rfl rfl) ?_
    intro a ht
    refine wpList_nil ?_
    refine then_normal ?_
    refine wp_ret ?_
    refine then_ret ?_
    have hres := ht.res (P := Try.prog) (w := w) (rs := [.tmp 4]) (vs := [.bool false]) (.tmp rfl .nil)
    obtain rfl := Option.some.inj H
    exact leave ht rfl hres ⟨rfl, ((hm.pick [] rfl (by decide)).pickφ [] rfl).post fun _ h => h⟩
  · replace H := ite_no h1 H
    refine wpc_no ht rfl (decide_eq_false h1) ?_
    refine wp_skip ?_
    refine then_normal ?_
    refine wp_seq ?_
    refine wp_seq ?_
    refine wpr ?_
    refine wpl rfl rfl ht (ev_move ht rfl rfl) ?_
    intro a ht
    refine wpl rfl rfl ht (ev_len_of ht rfl rfl und_43 (hm.fact (φ := IntsAt A c m s1) 0 rfl)) ?_
    intro a ht
    refine wpl rfl rfl ht (ev_move ht rfl rfl) ?_
    intro a ht
    refine wpList_nil ?_
    refine then_normal ?_
    refine wp_block ?_
    refine wpLoop (fun q a w => ∃ (xs0_1 : Int), slices_Equal_int64_int64.l0 q s1 s2 xs0_1 = some r ∧ q ≤ k ∧ Tm 26 [(0, .slice A m c), (1, .slice A2 m2 c2), (4, .bool false), (12, .int .i64 (s1.length : Int)), (13, .int .i64 xs0_1)] a ∧ Ms X (fps []) w0 [] [IntsAt A c m s1, IntsAt A2 c2 m2 s2] w) (k0 := k) ⟨0, H, Nat.le_refl _, ht.sub ⟨rfl, rfl, rfl, rfl, rfl, trivial⟩, (hm.pick [] rfl (by decide)).pickφ [0, 1] rfl⟩ ?_
    clear H ht hm
    intro q2 a w hJ
    obtain ⟨xs0_1, H, hqq2, ht, hm⟩ := hJ
    cases q2 with
    | zero => cases H
    | succ q2 =>
    rw [slices_Equal_int64_int64.l0] at H
    refine wp_seq ?_
    refine wpr ?_
    refine wpl rfl rfl ht (ev_cmp ht rfl rfl rfl rfl) ?_
    intro a ht
    refine wpList_nil ?_
    refine then_normal ?_
    refine wp_seq ?_
    by_cases h3 : xs0_1 < (s1.length : Int)
    · replace H := ite_yes h3 H
      refine wpc_yes ht rfl (decide_eq_true h3) ?_
      refine wp_skip ?_
      refine then_normal ?_
      refine wp_seq ?_
      refine wp_block ?_
      refine wp_seq ?_
      refine wpr ?_
      refine wpl rfl rfl ht (ev_move ht rfl rfl) ?_
      intro a ht
      refine wpl rfl rfl ht (ev_assign ht rfl rfl) ?_
      intro a ht
      refine wpList_nil ?_
      refine then_normal ?_
      refine wp_seq ?_
      refine wph_begin (fun w => Ms X (fps []) w0 [] [IntsAt A c m s1, IntsAt A2 c2 m2 s2] w) mixed ?_
      replace hm := hm.drew
      have hS : Ms X (fps []) w0 [] [IntsAt A c m s1, IntsAt A2 c2 m2 s2] w.drew := (hm.pick [] rfl (by decide)).pickφ [0, 1] rfl
      generalize w.drew = w at hm hS ⊢
      refine wph_take (i := 0) rfl (by kernel_rfl) (by kernel_rfl) (by kernel_rfl) (fun _ _ _ h => h) rfl ht hS (wanted_plain rfl) (fun w hm => ev_move ht rfl rfl) ?_
      intro a ht
      refine wph_take (i := 1) rfl (by kernel_rfl) (by kernel_rfl) (by kernel_rfl) (fun _ _ _ h => h) rfl ht hS (wanted_plain rfl) (fun w hm => ev_move ht rfl rfl) ?_
      intro a ht
      obtain ⟨t4, et4, H⟩ := bind_get H
      refine wph_take (i := 2) rfl (by kernel_rfl) (by kernel_rfl) (by kernel_rfl) (fun _ _ _ h => h) rfl ht hS (wanted_plain rfl) (fun w hm => ev_index_ints ht rfl rfl rfl so_43 (hm.fact (φ := IntsAt A c m s1) 0 rfl) et4) ?_
      intro a ht
      refine wph_take (i := 3) rfl (by kernel_rfl) (by kernel_rfl) (by kernel_rfl) (fun _ _ _ h => h) rfl ht hS (wanted_plain rfl) (fun w hm => ev_load ht rfl rfl sc_2 (RowAt.cell (hm.fact (φ := IntsAt A c m s1) 0 rfl) (ints_get et4) rfl)) ?_
      intro a ht
      refine wph_take (i := 4) rfl (by kernel_rfl) (by kernel_rfl) (by kernel_rfl) (fun _ _ _ h => h) rfl ht hS (wanted_plain rfl) (fun w hm => ev_move ht rfl rfl) ?_
      intro a ht
      refine wph_take (i := 5) rfl (by kernel_rfl) (by kernel_rfl) (by kernel_rfl) (fun _ _ _ h => h) rfl ht hS (wanted_plain rfl) (fun w hm => ev_move ht rfl rfl) ?_
      intro a ht
      obtain ⟨t5, et5, H⟩ := bind_get H
      refine wph_take (i := 6) rfl (by kernel_rfl) (by kernel_rfl) (by kernel_rfl) (fun _ _ _ h => h) rfl ht hS (wanted_plain rfl) (fun w hm => ev_index_ints ht rfl rfl rfl so_43 (hm.fact (φ := IntsAt A2 c2 m2 s2) 1 rfl) et5) ?_
      intro a ht
      refine wph_take (i := 7) rfl (by kernel_rfl) (by kernel_rfl) (by kernel_rfl) (fun _ _ _ h => h) rfl ht hS (wanted_plain rfl) (fun w hm => ev_load ht rfl rfl sc_2 (RowAt.cell (hm.fact (φ := IntsAt A2 c2 m2 s2) 1 rfl) (ints_get et5) rfl)) ?_
      intro a ht
      refine wph_take (i := 8) rfl (by kernel_rfl) (by kernel_rfl) (by kernel_rfl) (fun _ _ _ h => h) rfl ht hS (wanted_plain rfl) (fun w hm => ev_cmp ht rfl rfl rfl rfl) ?_
      intro a ht
      refine wph_done (by kernel_rfl) ?_
      refine then_normal ?_
      by_cases h6 : t4 ≠ t5
      · replace H := ite_yes h6 H
        refine wpc_yes ht rfl (decide_eq_true h6) ?_
        refine wp_seq ?_
        refine wpr ?_
        refine wpl rfl rfl ht (ev_assign ht rfl rfl) ?_
        intro a ht
        refine wpList_nil ?_
        refine then_normal ?_
        refine wp_ret ?_
        refine blk_ret ?_
        refine then_ret ?_
        refine then_ret ?_
        refine blk_ret ?_
        refine then_ret ?_
        have hres := ht.res (P := Try.prog) (w := w) (rs := [.tmp 4]) (vs := [.bool false]) (.tmp rfl .nil)
        obtain rfl := Option.some.inj H
        exact leave ht rfl hres ⟨rfl, ((hm.pick [] rfl (by decide)).pickφ [] rfl).post fun _ h => h⟩
      · replace H := ite_no h6 H
        refine wpc_no ht rfl (decide_eq_false h6) ?_
        refine wp_skip ?_
        refine blk_normal ?_
        refine then_normal ?_
        refine wpr ?_
        refine wpl rfl rfl ht (ev_arith ht rfl rfl rfl rfl) ?_
        intro a ht
        refine wpl rfl rfl ht (ev_move ht rfl rfl) ?_
        intro a ht
        refine wpList_nil ?_
        exact then_normal ⟨q2, by omega, (w64 (xs0_1 + 1)), H, by omega, ht.sub ⟨rfl, rfl, rfl, rfl, rfl, trivial⟩, (hm.pick [] rfl (by decide)).pickφ [0, 1] rfl⟩
    · replace H := ite_no h3 H
      refine wpc_no ht rfl (decide_eq_false h3) ?_
      refine wp_exit ?_
      refine then_exit ?_
      refine then_exit ?_
      refine blk_hit ?_
      refine then_normal ?_
      refine wp_seq ?_
      refine wpr ?_
      refine wpl rfl rfl ht (ev_assign ht rfl rfl) ?_
      intro a ht
      refine wpList_nil ?_
      refine then_normal ?_
      refine wp_ret ?_
      have hres := ht.res (P := Try.prog) (w := w) (rs := [.tmp 4]) (vs := [.bool true]) (.tmp rfl .nil)
      obtain rfl := Option.some.inj H
      exact leave ht rfl hres ⟨rfl, ((hm.pick [] rfl (by decide)).pickφ [] rfl).post fun _ h => h⟩

end Go.Proofs.Ytbgniopmmankdaa.G
