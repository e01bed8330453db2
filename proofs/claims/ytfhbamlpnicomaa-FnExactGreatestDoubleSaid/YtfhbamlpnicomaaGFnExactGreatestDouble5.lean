/- What each Go function computes, as a Lean function, and the proof that it does: written by a program of this session (wip/gen), part 5. -/
import Derived.Test.YtfhbamlpnicomaaGFnExactGreatestDouble4
namespace Go.Proofs.Ytfhbamlpnicomaa.G
open Go Go.RowKit Go.Proofs.Ytfhbamlpnicomaa.K
set_option linter.unusedVariables false
set_option linter.unusedSimpArgs false

/-! ### impl_Colouring_double: function 103 ((*loop.example/g01362/impl.Colouring).double) -/
mutual
def impl_Colouring_double.l0 : Nat → Col → Int → Bool → List Int → Int → Int → Option (List Int × Int)
  | 0, _, _, _, _, _, _ => none
  | q3 + 1, x, c, book, ls0_4, xs0_5, xs0_6 => if xs0_6 < x.p then (impl_Colouring_double.l1 q3 x c book xs0_6 (w64 (xs0_6 + 1)) ls0_4 xs0_5) else (some (ls0_4, xs0_5))
def impl_Colouring_double.l1 : Nat → Col → Int → Bool → Int → Int → List Int → Int → Option (List Int × Int)
  | 0, _, _, _, _, _, _, _ => none
  | q7 + 1, x, c, book, xs0_6, xs1_2, ls1_6, xs1_7 => if xs1_2 < x.p then (if book = true then ((impl_Colouring_joins.f x xs0_6 xs1_2 c).bind fun t10 => if t10 = true then ((impl_Colouring_that__Colouring_double_1.f q7 x xs0_6 c xs1_2).bind fun t12 => (impl_size_int64.f t12).bind fun t16 => if t16 > xs1_7 then (impl_Colouring_double.l1 q7 x c book xs0_6 (w64 (xs1_2 + 1)) ([xs0_6, xs1_2]) t16) else (impl_Colouring_double.l1 q7 x c book xs0_6 (w64 (xs1_2 + 1)) ls1_6 xs1_7)) else (impl_Colouring_double.l1 q7 x c book xs0_6 (w64 (xs1_2 + 1)) ls1_6 xs1_7)) else ((impl_Colouring_that__Colouring_double_1.f q7 x xs0_6 c xs1_2).bind fun t23 => (impl_size_int64.f t23).bind fun t27 => if t27 > xs1_7 then (impl_Colouring_double.l1 q7 x c book xs0_6 (w64 (xs1_2 + 1)) ([xs0_6, xs1_2]) t27) else (impl_Colouring_double.l1 q7 x c book xs0_6 (w64 (xs1_2 + 1)) ls1_6 xs1_7))) else (impl_Colouring_double.l0 q7 x c book ls1_6 xs1_7 (w64 (xs0_6 + 1)))
end
def impl_Colouring_double.f (k : Nat) (x : Col) (c : Int) (book : Bool) : Option (List Int × Int) := impl_Colouring_double.l0 k x c book ([] : List Int) (-1) 0
set_option maxRecDepth 100000 in
set_option maxHeartbeats 1000000 in
theorem impl_Colouring_double.calls (k : Nat) (X : List Nat) (w0 : World) (b : Nat) (x : Col) (c : Int) (book : Bool) (r : List Int × Int)
    (hp : Pre X w0 [.blk b 28 (Col.cells x)] []) (H : impl_Colouring_double.f k x c book = some r) :
    Calls Try.prog 103 [.pointer (some ⟨b, 0, none⟩), .int .i64 c, .bool book].toArray w0 (Ret fun v w => ∃ (A_0 : Option Addr) (c_0 : Nat) (n_0 : Nat), v = .tuple [.slice A_0 n_0 c_0, .int .i64 r.2].toArray ∧ Post X (fps [.blk b 28 (Col.cells x)]) w0 [.vec A_0 c_0 2 1 n_0 (ints r.1), .blk b 28 (Col.cells x)] [NilE A_0 r.1] w) := by
  unfold impl_Colouring_double.f at H
  refine enterM (n := 54) hp Try.func103 rfl rfl (Nat.le_of_ble_eq_true rfl) fun a w ht hm => ?_
  refine wp_seq ?_
  refine wpr ?_
  refine wpl_box rfl rfl ht hm rfl rfl rfl ?_
  intro b1 a ht w hm
  refine wpl_box rfl rfl ht hm rfl rfl rfl ?_
  intro b2 a ht w hm
  refine wpl rfl rfl ht (ev_assign ht rfl rfl) ?_
  intro a ht
  refine wpl rfl rfl ht (ev_assign ht rfl rfl) ?_
  intro a ht
  refine wpList_nil ?_
  refine then_normal ?_
  refine wp_seq ?_
  refine wpr ?_
  refine wpl rfl rfl ht (ev_assign ht rfl rfl) ?_
  intro a ht
  refine wpList_nil ?_
  refine then_normal ?_
  refine wp_seq ?_
  refine wpr ?_
  refine wpl rfl rfl ht (ev_assign ht rfl rfl) ?_
  intro a ht
  refine wpList_nil ?_
  refine then_normal ?_
  refine wp_seq ?_
  refine wp_seq ?_
  refine wpr ?_
  refine wpl rfl rfl ht (ev_load ht rfl rfl sc_82 (hm.blk_cell 1 rfl rfl)) ?_
  intro a ht
  refine wpl rfl rfl ht (ev_nilCheck ht rfl rfl) ?_
  intro a ht
  refine wpl rfl rfl ht (ev_fieldAddr ht rfl rfl fo_28_0) ?_
  intro a ht
  refine wpl rfl rfl ht (ev_load ht rfl rfl sc_2 (hm.blk_cell 2 rfl rfl)) ?_
  intro a ht
  refine wpl rfl rfl ht (ev_move ht rfl rfl) ?_
  intro a ht
  refine wpList_nil ?_
  refine then_normal ?_
  refine wp_block ?_
  replace hm : Ms _ _ _ (.vec none 0 2 1 0 (ints ([] : List Int)) :: _) _ w := hm.nilVec none 2 1
  replace hm : Ms _ _ _ _ (NilE none ([] : List Int) :: _) w := hm.addφ (NilE.ro (fun h => rfl))
  refine wpLoop (fun q a w => ∃ (ls0_4 : List Int) (xs0_5 : Int) (xs0_6 : Int) (As0_1 : Option Addr) (cs0_2 : Nat) (ms0_3 : Nat), impl_Colouring_double.l0 q x c book ls0_4 xs0_5 xs0_6 = some r ∧ q ≤ k ∧ Tm 54 [(2, .bool book), (3, .pointer (some ⟨b1, 0, none⟩)), (4, .pointer (some ⟨b2, 0, none⟩)), (6, .slice none 0 0), (7, .int .i64 0), (8, .slice As0_1 ms0_3 cs0_2), (16, .int .i64 x.p), (9, .int .i64 xs0_5), (17, .int .i64 xs0_6)] a ∧ Ms X (fps [.blk b 28 (Col.cells x)]) w0 [.vec As0_1 cs0_2 2 1 ms0_3 (ints ls0_4), .blk b2 2 [.int .i64 c], .blk b1 82 [.pointer (some ⟨b, 0, none⟩)], .blk b 28 (Col.cells x)] [NilE As0_1 ls0_4] w) (k0 := k) ⟨([] : List Int), (-1), 0, none, 0, 0, H, Nat.le_refl _, ht.sub ⟨rfl, rfl, rfl, rfl, rfl, rfl, rfl, rfl, rfl, trivial⟩, (hm.pick [0, 1, 2, 3] rfl (by decide)).pickφ [0] rfl⟩ ?_
  clear H ht hm
  intro q3 a w hJ
  obtain ⟨ls0_4, xs0_5, xs0_6, As0_1, cs0_2, ms0_3, H, hqq3, ht, hm⟩ := hJ
  cases q3 with
  | zero => cases H
  | succ q3 =>
  rw [impl_Colouring_double.l0] at H
  refine wp_seq ?_
  refine wpr ?_
  refine wpl rfl rfl ht (ev_cmp ht rfl rfl rfl rfl) ?_
  intro a ht
  refine wpList_nil ?_
  refine then_normal ?_
  refine wp_seq ?_
  by_cases h4 : xs0_6 < x.p
  · replace H := ite_yes h4 H
    refine wpc_yes ht rfl (decide_eq_true h4) ?_
    refine wp_skip ?_
    refine then_normal ?_
    refine wp_seq ?_
    refine wp_block ?_
    refine wp_seq ?_
    refine wpr ?_
    refine wpl rfl rfl ht (ev_move ht rfl rfl) ?_
    intro a ht
    refine wpl_alloc rfl rfl ht hm rfl zo_2 ?_
    intro b5 a ht w hm
    refine wpl_store_blk 0 rfl rfl ht hm rfl rfl rfl sz1_2 rfl rfl rfl ?_
    intro a ht w hm
    refine wpList_nil ?_
    refine then_normal ?_
    refine wp_seq ?_
    refine wpr ?_
    refine wpl rfl rfl ht (ev_load ht rfl rfl sc_2 (hm.blk_cell 0 rfl rfl)) ?_
    intro a ht
    refine wpl rfl rfl ht (ev_arith ht rfl rfl rfl rfl) ?_
    intro a ht
    refine wpl_alloc rfl rfl ht hm rfl zo_2 ?_
    intro b6 a ht w hm
    refine wpl_store_blk 0 rfl rfl ht hm rfl rfl rfl sz1_2 rfl rfl rfl ?_
    intro a ht w hm
    refine wpList_nil ?_
    refine then_normal ?_
    refine wp_block ?_
    refine wpLoop (fun q a w => ∃ (xs1_2 : Int) (ls1_6 : List Int) (xs1_7 : Int) (bs1_1 : Nat) (As1_3 : Option Addr) (cs1_4 : Nat) (ms1_5 : Nat), impl_Colouring_double.l1 q x c book xs0_6 xs1_2 ls1_6 xs1_7 = some r ∧ q ≤ q3 ∧ Tm 54 [(2, .bool book), (3, .pointer (some ⟨b1, 0, none⟩)), (4, .pointer (some ⟨b2, 0, none⟩)), (6, .slice none 0 0), (7, .int .i64 0), (8, .slice As1_3 ms1_5 cs1_4), (10, .pointer (some ⟨b5, 0, none⟩)), (11, .pointer (some ⟨bs1_1, 0, none⟩)), (16, .int .i64 x.p), (17, .int .i64 xs0_6), (18, .bool (decide (xs0_6 < x.p))), (19, .int .i64 xs0_6), (20, .int .i64 xs0_6), (21, .int .i64 (w64 (xs0_6 + 1))), (9, .int .i64 xs1_7)] a ∧ Ms X (fps [.blk b 28 (Col.cells x)]) w0 [.blk bs1_1 2 [.int .i64 xs1_2], .blk b5 2 [.int .i64 xs0_6], .vec As1_3 cs1_4 2 1 ms1_5 (ints ls1_6), .blk b2 2 [.int .i64 c], .blk b1 82 [.pointer (some ⟨b, 0, none⟩)], .blk b 28 (Col.cells x)] [NilE As1_3 ls1_6] w) (k0 := q3) ⟨(w64 (xs0_6 + 1)), ls0_4, xs0_5, b6, As0_1, cs0_2, ms0_3, H, Nat.le_refl _, ht.sub ⟨rfl, rfl, rfl, rfl, rfl, rfl, rfl, rfl, rfl, rfl, rfl, rfl, rfl, rfl, rfl, trivial⟩, (hm.pick [0, 1, 2, 3, 4, 5] rfl (by decide)).pickφ [0] rfl⟩ ?_
    clear H ht hm
    intro q7 a w hJ
    obtain ⟨xs1_2, ls1_6, xs1_7, bs1_1, As1_3, cs1_4, ms1_5, H, hqq7, ht, hm⟩ := hJ
    cases q7 with
    | zero => cases H
    | succ q7 =>
    rw [impl_Colouring_double.l1] at H
    refine wp_seq ?_
    refine wp_seq ?_
    refine wph_begin (fun w => Ms X (fps [.blk b 28 (Col.cells x)]) w0 [.blk bs1_1 2 [.int .i64 xs1_2], .blk b5 2 [.int .i64 xs0_6], .vec As1_3 cs1_4 2 1 ms1_5 (ints ls1_6), .blk b2 2 [.int .i64 c], .blk b1 82 [.pointer (some ⟨b, 0, none⟩)], .blk b 28 (Col.cells x)] [NilE As1_3 ls1_6] w) mixed ?_
    replace hm := hm.drew
    have hS : Ms X (fps [.blk b 28 (Col.cells x)]) w0 [.blk bs1_1 2 [.int .i64 xs1_2], .blk b5 2 [.int .i64 xs0_6], .vec As1_3 cs1_4 2 1 ms1_5 (ints ls1_6), .blk b2 2 [.int .i64 c], .blk b1 82 [.pointer (some ⟨b, 0, none⟩)], .blk b 28 (Col.cells x)] [NilE As1_3 ls1_6] w.drew := (hm.pick [0, 1, 2, 3, 4, 5] rfl (by decide)).pickφ [0] rfl
    generalize w.drew = w at hm hS ⊢
    refine wph_take (i := 0) rfl (by kernel_rfl) (by kernel_rfl) (by kernel_rfl) (fun _ _ _ h => h) rfl ht hS (wanted_plain rfl) (fun w hm => ev_load ht rfl rfl sc_2 (hm.blk_cell 0 rfl rfl)) ?_
    intro a ht
    refine wph_take (i := 1) rfl (by kernel_rfl) (by kernel_rfl) (by kernel_rfl) (fun _ _ _ h => h) rfl ht hS (wanted_plain rfl) (fun w hm => ev_load ht rfl rfl sc_82 (hm.blk_cell 4 rfl rfl)) ?_
    intro a ht
    refine wph_take (i := 2) rfl (by kernel_rfl) (by kernel_rfl) (by kernel_rfl) (fun _ _ _ h => h) rfl ht hS (wanted_plain rfl) (fun w hm => ev_nilCheck ht rfl rfl) ?_
    intro a ht
    refine wph_take (i := 3) rfl (by kernel_rfl) (by kernel_rfl) (by kernel_rfl) (fun _ _ _ h => h) rfl ht hS (wanted_plain rfl) (fun w hm => ev_fieldAddr ht rfl rfl fo_28_0) ?_
    intro a ht
    refine wph_take (i := 4) rfl (by kernel_rfl) (by kernel_rfl) (by kernel_rfl) (fun _ _ _ h => h) rfl ht hS (wanted_plain rfl) (fun w hm => ev_load ht rfl rfl sc_2 (hm.blk_cell 5 rfl rfl)) ?_
    intro a ht
    refine wph_take (i := 5) rfl (by kernel_rfl) (by kernel_rfl) (by kernel_rfl) (fun _ _ _ h => h) rfl ht hS (wanted_plain rfl) (fun w hm => ev_cmp ht rfl rfl rfl rfl) ?_
    intro a ht
    refine wph_done (by kernel_rfl) ?_
    refine then_normal ?_
    by_cases h8 : xs1_2 < x.p
    · replace H := ite_yes h8 H
      refine wpc_yes ht rfl (decide_eq_true h8) ?_
      refine wp_skip ?_
      refine then_normal ?_
      refine wp_seq ?_
      refine wp_block ?_
      refine wp_seq ?_
      refine wp_seq ?_
      refine wpr ?_
      refine wpl rfl rfl ht (ev_move ht rfl rfl) ?_
      intro a ht
      refine wpl rfl rfl ht (ev_move ht rfl rfl) ?_
      intro a ht
      by_cases h9 : book = true
      · replace H := ite_yes h9 H
        refine wpl_yes rfl ht rfl (h9) ?_
        refine wpl rfl rfl ht (ev_load ht rfl rfl sc_82 (hm.blk_cell 4 rfl rfl)) ?_
        intro a ht
        refine wpl_yes rfl ht rfl (h9) ?_
        refine wpl rfl rfl ht (ev_load ht rfl rfl sc_2 (hm.blk_cell 1 rfl rfl)) ?_
        intro a ht
        refine wpl_yes rfl ht rfl (h9) ?_
        refine wpl rfl rfl ht (ev_load ht rfl rfl sc_2 (hm.blk_cell 0 rfl rfl)) ?_
        intro a ht
        refine wpl_yes rfl ht rfl (h9) ?_
        refine wpl rfl rfl ht (ev_load ht rfl rfl sc_2 (hm.blk_cell 3 rfl rfl)) ?_
        intro a ht
        refine wpl_yes rfl ht rfl (h9) ?_
        obtain ⟨t10, et10, H⟩ := bind_get H
        have hcall := impl_Colouring_joins.calls _ _ b x xs0_6 xs1_2 c _ ((fun (hq : Ms _ _ _ ([.blk b 28 (Col.cells x)] ++ [.blk bs1_1 2 [.int .i64 xs1_2], .blk b5 2 [.int .i64 xs0_6], .vec As1_3 cs1_4 2 1 ms1_5 (ints ls1_6), .blk b2 2 [.int .i64 c], .blk b1 82 [.pointer (some ⟨b, 0, none⟩)]]) _ _) => hq.lend (φp := []) (allRO_nil)) (hm.pick (own' := [.blk b 28 (Col.cells x)] ++ [.blk bs1_1 2 [.int .i64 xs1_2], .blk b5 2 [.int .i64 xs0_6], .vec As1_3 cs1_4 2 1 ms1_5 (ints ls1_6), .blk b2 2 [.int .i64 c], .blk b1 82 [.pointer (some ⟨b, 0, none⟩)]]) [5, 0, 1, 2, 3, 4] rfl (by decide))) et10
        refine wpl_call _ rfl rfl ht rfl rfl rfl rfl can_65 hcall ?_
        clear hcall
        rintro _ w ⟨rfl, hpost⟩ a ht
        replace hm := (hm.pick (own' := [.blk b 28 (Col.cells x)] ++ [.blk bs1_1 2 [.int .i64 xs1_2], .blk b5 2 [.int .i64 xs0_6], .vec As1_3 cs1_4 2 1 ms1_5 (ints ls1_6), .blk b2 2 [.int .i64 c], .blk b1 82 [.pointer (some ⟨b, 0, none⟩)]]) [5, 0, 1, 2, 3, 4] rfl (by decide)).backL hpost
        clear hpost
        refine wpl_yes rfl ht rfl (h9) ?_
        refine wpl rfl rfl ht (ev_not ht rfl rfl) ?_
        intro a ht
        refine wpl rfl rfl ht (ev_pick_yes ht rfl rfl h9 rfl) ?_
        intro a ht
        refine wpList_nil ?_
        refine then_normal ?_
        by_cases h11 : t10 = true
        · replace H := ite_yes h11 H
          refine wpc_no ht rfl (not_t h11) ?_
          refine wp_skip ?_
          refine then_normal ?_
          refine wp_seq ?_
          refine wpr ?_
          refine wpl rfl rfl ht (ev_load ht rfl rfl sc_82 (hm.blk_cell 5 rfl rfl)) ?_
          intro a ht
          refine wpl rfl rfl ht (ev_makeFunc ht rfl rfl rfl) ?_
          intro a ht
          obtain ⟨t12, et12, H⟩ := bind_get H
          have hcall := impl_Colouring_that__Colouring_double_1.calls q7 _ _ b b1 b5 b2 bs1_1 x xs0_6 c xs1_2 _ ((fun (hq : Ms _ _ _ ([.blk b 28 (Col.cells x), .blk b1 82 [.pointer (some ⟨b, 0, none⟩)], .blk b5 2 [.int .i64 xs0_6], .blk b2 2 [.int .i64 c], .blk bs1_1 2 [.int .i64 xs1_2]] ++ [.vec As1_3 cs1_4 2 1 ms1_5 (ints ls1_6)]) _ _) => hq.lend (φp := []) (allRO_nil)) (hm.pick (own' := [.blk b 28 (Col.cells x), .blk b1 82 [.pointer (some ⟨b, 0, none⟩)], .blk b5 2 [.int .i64 xs0_6], .blk b2 2 [.int .i64 c], .blk bs1_1 2 [.int .i64 xs1_2]] ++ [.vec As1_3 cs1_4 2 1 ms1_5 (ints ls1_6)]) [0, 5, 2, 4, 1, 3] rfl (by decide))) et12
          refine wpl_call _ rfl rfl ht rfl rfl rfl rfl can_63 hcall ?_
          clear hcall
          rintro _ w ⟨A13, c14, m15, rfl, hpost⟩ a ht
          replace hm := (hm.pick (own' := [.blk b 28 (Col.cells x), .blk b1 82 [.pointer (some ⟨b, 0, none⟩)], .blk b5 2 [.int .i64 xs0_6], .blk b2 2 [.int .i64 c], .blk bs1_1 2 [.int .i64 xs1_2]] ++ [.vec As1_3 cs1_4 2 1 ms1_5 (ints ls1_6)]) [0, 5, 2, 4, 1, 3] rfl (by decide)).backL hpost
          clear hpost
          obtain ⟨t16, et16, H⟩ := bind_get H
          have hcall := impl_size_int64.calls _ _ A13 c14 m15 t12 _ ((fun (hq : Ms _ _ _ ([] ++ [.vec A13 c14 2 1 m15 (ints t12), .blk b 28 (Col.cells x), .blk b1 82 [.pointer (some ⟨b, 0, none⟩)], .blk b5 2 [.int .i64 xs0_6], .blk b2 2 [.int .i64 c], .blk bs1_1 2 [.int .i64 xs1_2], .vec As1_3 cs1_4 2 1 ms1_5 (ints ls1_6)]) _ _) => hq.lend (φp := [IntsAt A13 c14 m15 t12]) (allRO_cons (hq.lendVec 0 rfl) (allRO_nil))) (hm.pick (own' := [] ++ [.vec A13 c14 2 1 m15 (ints t12), .blk b 28 (Col.cells x), .blk b1 82 [.pointer (some ⟨b, 0, none⟩)], .blk b5 2 [.int .i64 xs0_6], .blk b2 2 [.int .i64 c], .blk bs1_1 2 [.int .i64 xs1_2], .vec As1_3 cs1_4 2 1 ms1_5 (ints ls1_6)]) [0, 1, 2, 3, 4, 5, 6] rfl (by decide))) et16
          refine wpl_call _ rfl rfl ht rfl rfl rfl rfl can_93 hcall ?_
          clear hcall
          rintro _ w ⟨rfl, hpost⟩ a ht
          replace hm := (hm.pick (own' := [] ++ [.vec A13 c14 2 1 m15 (ints t12), .blk b 28 (Col.cells x), .blk b1 82 [.pointer (some ⟨b, 0, none⟩)], .blk b5 2 [.int .i64 xs0_6], .blk b2 2 [.int .i64 c], .blk bs1_1 2 [.int .i64 xs1_2], .vec As1_3 cs1_4 2 1 ms1_5 (ints ls1_6)]) [0, 1, 2, 3, 4, 5, 6] rfl (by decide)).backL hpost
          clear hpost
          refine wpl rfl rfl ht (ev_assign ht rfl rfl) ?_
          intro a ht
          refine wpList_nil ?_
          refine then_normal ?_
          refine wp_seq ?_
          refine wpr ?_
          refine wpl rfl rfl ht (ev_move ht rfl rfl) ?_
          intro a ht
          refine wpl rfl rfl ht (ev_move ht rfl rfl) ?_
          intro a ht
          refine wpl rfl rfl ht (ev_cmp ht rfl rfl rfl rfl) ?_
          intro a ht
          refine wpList_nil ?_
          refine then_normal ?_
          by_cases h17 : t16 > xs1_7
          · replace H := ite_yes h17 H
            refine wpc_yes ht rfl (decide_eq_true h17) ?_
            refine wpr ?_
            refine wpl rfl rfl ht (ev_load ht rfl rfl sc_2 (hm.blk_cell 3 rfl rfl)) ?_
            intro a ht
            refine wpl rfl rfl ht (ev_load ht rfl rfl sc_2 (hm.blk_cell 5 rfl rfl)) ?_
            intro a ht
            refine wpl_build_ints (l := [xs0_6, xs1_2]) rfl rfl ht hm rfl und_25 zo_2 sz1_2 (by decide) rfl rfl rfl ?_
            intro A18 a ht w hm
            refine wpl rfl rfl ht (ev_move ht rfl rfl) ?_
            intro a ht
            refine wpl rfl rfl ht (ev_assign ht rfl rfl) ?_
            intro a ht
            refine wpl rfl rfl ht (ev_assign ht rfl rfl) ?_
            intro a ht
            refine wpList_nil ?_
            refine blk_normal ?_
            refine then_normal ?_
            refine wp_seq ?_
            refine wp_seq ?_
            refine wpr ?_
            refine wpl rfl rfl ht (ev_load ht rfl rfl sc_2 (hm.blk_cell 6 rfl rfl)) ?_
            intro a ht
            refine wpList_nil ?_
            refine then_normal ?_
            refine wpr ?_
            refine wpl_alloc rfl rfl ht hm rfl zo_2 ?_
            intro b19 a ht w hm
            refine wpl_store_blk 0 rfl rfl ht hm rfl rfl rfl sz1_2 rfl rfl rfl ?_
            intro a ht w hm
            refine wpList_nil ?_
            refine then_normal ?_
            refine wpr ?_
            refine wpl rfl rfl ht (ev_load ht rfl rfl sc_2 (hm.blk_cell 0 rfl rfl)) ?_
            intro a ht
            refine wpl rfl rfl ht (ev_arith ht rfl rfl rfl rfl) ?_
            intro a ht
            refine wpl_store_blk 0 rfl rfl ht hm rfl rfl rfl sz1_2 rfl rfl rfl ?_
            intro a ht w hm
            refine wpList_nil ?_
            replace hm := hm.pick (own' := [.blk b19 2 [.int .i64 (w64 (xs1_2 + 1))], .vec A18 2 2 1 2 (ints ([xs0_6, xs1_2])), .vec A13 c14 2 1 m15 (ints t12), .blk b 28 (Col.cells x), .blk b1 82 [.pointer (some ⟨b, 0, none⟩)], .blk b5 2 [.int .i64 xs0_6], .blk b2 2 [.int .i64 c], .blk bs1_1 2 [.int .i64 xs1_2]]) [0, 1, 2, 3, 4, 5, 6, 7] rfl (by decide)
            replace hm := hm.pick (own' := [.blk b19 2 [.int .i64 (w64 (xs1_2 + 1))], .vec A18 2 2 1 2 (ints ([xs0_6, xs1_2])), .vec A13 c14 2 1 m15 (ints t12), .blk b 28 (Col.cells x), .blk b1 82 [.pointer (some ⟨b, 0, none⟩)], .blk b5 2 [.int .i64 xs0_6], .blk b2 2 [.int .i64 c]]) [0, 1, 2, 3, 4, 5, 6] rfl (by decide)
            replace hm : Ms _ _ _ _ (NilE A18 ([xs0_6, xs1_2]) :: _) w := hm.addφ (NilE.ro (fun h => nomatch h))
            exact then_normal ⟨q7, by omega, (w64 (xs1_2 + 1)), ([xs0_6, xs1_2]), t16, b19, A18, 2, 2, H, by omega, ht.sub ⟨rfl, rfl, rfl, rfl, rfl, rfl, rfl, rfl, rfl, rfl, rfl, rfl, rfl, rfl, rfl, trivial⟩, (hm.pick [0, 5, 1, 6, 4, 3] rfl (by decide)).pickφ [0] rfl⟩
          · replace H := ite_no h17 H
            refine wpc_no ht rfl (decide_eq_false h17) ?_
            refine wp_skip ?_
            refine blk_normal ?_
            refine then_normal ?_
            refine wp_seq ?_
            refine wp_seq ?_
            refine wpr ?_
            refine wpl rfl rfl ht (ev_load ht rfl rfl sc_2 (hm.blk_cell 5 rfl rfl)) ?_
            intro a ht
            refine wpList_nil ?_
            refine then_normal ?_
            refine wpr ?_
            refine wpl_alloc rfl rfl ht hm rfl zo_2 ?_
            intro b21 a ht w hm
            refine wpl_store_blk 0 rfl rfl ht hm rfl rfl rfl sz1_2 rfl rfl rfl ?_
            intro a ht w hm
            refine wpList_nil ?_
            refine then_normal ?_
            refine wpr ?_
            refine wpl rfl rfl ht (ev_load ht rfl rfl sc_2 (hm.blk_cell 0 rfl rfl)) ?_
            intro a ht
            refine wpl rfl rfl ht (ev_arith ht rfl rfl rfl rfl) ?_
            intro a ht
            refine wpl_store_blk 0 rfl rfl ht hm rfl rfl rfl sz1_2 rfl rfl rfl ?_
            intro a ht w hm
            refine wpList_nil ?_
            replace hm := hm.pick (own' := [.blk b21 2 [.int .i64 (w64 (xs1_2 + 1))], .vec A13 c14 2 1 m15 (ints t12), .blk b 28 (Col.cells x), .blk b1 82 [.pointer (some ⟨b, 0, none⟩)], .blk b5 2 [.int .i64 xs0_6], .blk b2 2 [.int .i64 c], .vec As1_3 cs1_4 2 1 ms1_5 (ints ls1_6)]) [0, 1, 2, 3, 4, 5, 7] rfl (by decide)
            exact then_normal ⟨q7, by omega, (w64 (xs1_2 + 1)), ls1_6, xs1_7, b21, As1_3, cs1_4, ms1_5, H, by omega, ht.sub ⟨rfl, rfl, rfl, rfl, rfl, rfl, rfl, rfl, rfl, rfl, rfl, rfl, rfl, rfl, rfl, trivial⟩, (hm.pick [0, 4, 6, 5, 3, 2] rfl (by decide)).pickφ [0] rfl⟩
        · replace H := ite_no h11 H
          refine wpc_yes ht rfl (not_f (Bool.eq_false_iff.mpr h11)) ?_
          refine wp_exit ?_
          refine then_exit ?_
          refine blk_hit ?_
          refine then_normal ?_
          refine wp_seq ?_
          refine wp_seq ?_
          refine wpr ?_
          refine wpl rfl rfl ht (ev_load ht rfl rfl sc_2 (hm.blk_cell 1 rfl rfl)) ?_
          intro a ht
          refine wpList_nil ?_
          refine then_normal ?_
          refine wpr ?_
          refine wpl_alloc rfl rfl ht hm rfl zo_2 ?_
          intro b22 a ht w hm
          refine wpl_store_blk 0 rfl rfl ht hm rfl rfl rfl sz1_2 rfl rfl rfl ?_
          intro a ht w hm
          refine wpList_nil ?_
          refine then_normal ?_
          refine wpr ?_
          refine wpl rfl rfl ht (ev_load ht rfl rfl sc_2 (hm.blk_cell 0 rfl rfl)) ?_
          intro a ht
          refine wpl rfl rfl ht (ev_arith ht rfl rfl rfl rfl) ?_
          intro a ht
          refine wpl_store_blk 0 rfl rfl ht hm rfl rfl rfl sz1_2 rfl rfl rfl ?_
          intro a ht w hm
          refine wpList_nil ?_
          replace hm := hm.pick (own' := [.blk b22 2 [.int .i64 (w64 (xs1_2 + 1))], .blk b 28 (Col.cells x), .blk b5 2 [.int .i64 xs0_6], .vec As1_3 cs1_4 2 1 ms1_5 (ints ls1_6), .blk b2 2 [.int .i64 c], .blk b1 82 [.pointer (some ⟨b, 0, none⟩)]]) [0, 1, 3, 4, 5, 6] rfl (by decide)
          exact then_normal ⟨q7, by omega, (w64 (xs1_2 + 1)), ls1_6, xs1_7, b22, As1_3, cs1_4, ms1_5, H, by omega, ht.sub ⟨rfl, rfl, rfl, rfl, rfl, rfl, rfl, rfl, rfl, rfl, rfl, rfl, rfl, rfl, rfl, trivial⟩, (hm.pick [0, 2, 3, 4, 5, 1] rfl (by decide)).pickφ [0] rfl⟩
      · replace H := ite_no h9 H
        refine wpl_no rfl rfl ht rfl (by rw [(Bool.eq_false_iff.mpr h9)]; decide) ?_
        intro a ht
        refine wpl_no rfl rfl ht rfl (by rw [(Bool.eq_false_iff.mpr h9)]; decide) ?_
        intro a ht
        refine wpl_no rfl rfl ht rfl (by rw [(Bool.eq_false_iff.mpr h9)]; decide) ?_
        intro a ht
        refine wpl_no rfl rfl ht rfl (by rw [(Bool.eq_false_iff.mpr h9)]; decide) ?_
        intro a ht
        refine wpl_no rfl rfl ht rfl (by rw [(Bool.eq_false_iff.mpr h9)]; decide) ?_
        intro a ht
        refine wpl_no rfl rfl ht rfl (by rw [(Bool.eq_false_iff.mpr h9)]; decide) ?_
        intro a ht
        refine wpl rfl rfl ht (ev_pick_no ht rfl rfl (Bool.eq_false_iff.mpr h9) rfl) ?_
        intro a ht
        refine wpList_nil ?_
        refine then_normal ?_
        refine wpc_no ht rfl rfl ?_
        refine wp_skip ?_
        refine then_normal ?_
        refine wp_seq ?_
        refine wpr ?_
        refine wpl rfl rfl ht (ev_load ht rfl rfl sc_82 (hm.blk_cell 4 rfl rfl)) ?_
        intro a ht
        refine wpl rfl rfl ht (ev_makeFunc ht rfl rfl rfl) ?_
        intro a ht
        obtain ⟨t23, et23, H⟩ := bind_get H
        have hcall := impl_Colouring_that__Colouring_double_1.calls q7 _ _ b b1 b5 b2 bs1_1 x xs0_6 c xs1_2 _ ((fun (hq : Ms _ _ _ ([.blk b 28 (Col.cells x), .blk b1 82 [.pointer (some ⟨b, 0, none⟩)], .blk b5 2 [.int .i64 xs0_6], .blk b2 2 [.int .i64 c], .blk bs1_1 2 [.int .i64 xs1_2]] ++ [.vec As1_3 cs1_4 2 1 ms1_5 (ints ls1_6)]) _ _) => hq.lend (φp := []) (allRO_nil)) (hm.pick (own' := [.blk b 28 (Col.cells x), .blk b1 82 [.pointer (some ⟨b, 0, none⟩)], .blk b5 2 [.int .i64 xs0_6], .blk b2 2 [.int .i64 c], .blk bs1_1 2 [.int .i64 xs1_2]] ++ [.vec As1_3 cs1_4 2 1 ms1_5 (ints ls1_6)]) [5, 4, 1, 3, 0, 2] rfl (by decide))) et23
        refine wpl_call _ rfl rfl ht rfl rfl rfl rfl can_63 hcall ?_
        clear hcall
        rintro _ w ⟨A24, c25, m26, rfl, hpost⟩ a ht
        replace hm := (hm.pick (own' := [.blk b 28 (Col.cells x), .blk b1 82 [.pointer (some ⟨b, 0, none⟩)], .blk b5 2 [.int .i64 xs0_6], .blk b2 2 [.int .i64 c], .blk bs1_1 2 [.int .i64 xs1_2]] ++ [.vec As1_3 cs1_4 2 1 ms1_5 (ints ls1_6)]) [5, 4, 1, 3, 0, 2] rfl (by decide)).backL hpost
        clear hpost
        obtain ⟨t27, et27, H⟩ := bind_get H
        have hcall := impl_size_int64.calls _ _ A24 c25 m26 t23 _ ((fun (hq : Ms _ _ _ ([] ++ [.vec A24 c25 2 1 m26 (ints t23), .blk b 28 (Col.cells x), .blk b1 82 [.pointer (some ⟨b, 0, none⟩)], .blk b5 2 [.int .i64 xs0_6], .blk b2 2 [.int .i64 c], .blk bs1_1 2 [.int .i64 xs1_2], .vec As1_3 cs1_4 2 1 ms1_5 (ints ls1_6)]) _ _) => hq.lend (φp := [IntsAt A24 c25 m26 t23]) (allRO_cons (hq.lendVec 0 rfl) (allRO_nil))) (hm.pick (own' := [] ++ [.vec A24 c25 2 1 m26 (ints t23), .blk b 28 (Col.cells x), .blk b1 82 [.pointer (some ⟨b, 0, none⟩)], .blk b5 2 [.int .i64 xs0_6], .blk b2 2 [.int .i64 c], .blk bs1_1 2 [.int .i64 xs1_2], .vec As1_3 cs1_4 2 1 ms1_5 (ints ls1_6)]) [0, 1, 2, 3, 4, 5, 6] rfl (by decide))) et27
        refine wpl_call _ rfl rfl ht rfl rfl rfl rfl can_93 hcall ?_
        clear hcall
        rintro _ w ⟨rfl, hpost⟩ a ht
        replace hm := (hm.pick (own' := [] ++ [.vec A24 c25 2 1 m26 (ints t23), .blk b 28 (Col.cells x), .blk b1 82 [.pointer (some ⟨b, 0, none⟩)], .blk b5 2 [.int .i64 xs0_6], .blk b2 2 [.int .i64 c], .blk bs1_1 2 [.int .i64 xs1_2], .vec As1_3 cs1_4 2 1 ms1_5 (ints ls1_6)]) [0, 1, 2, 3, 4, 5, 6] rfl (by decide)).backL hpost
        clear hpost
        refine wpl rfl rfl ht (ev_assign ht rfl rfl) ?_
        intro a ht
        refine wpList_nil ?_
        refine then_normal ?_
        refine wp_seq ?_
        refine wpr ?_
        refine wpl rfl rfl ht (ev_move ht rfl rfl) ?_
        intro a ht
        refine wpl rfl rfl ht (ev_move ht rfl rfl) ?_
        intro a ht
        refine wpl rfl rfl ht (ev_cmp ht rfl rfl rfl rfl) ?_
        intro a ht
        refine wpList_nil ?_
        refine then_normal ?_
        by_cases h28 : t27 > xs1_7
        · replace H := ite_yes h28 H
          refine wpc_yes ht rfl (decide_eq_true h28) ?_
          refine wpr ?_
          refine wpl rfl rfl ht (ev_load ht rfl rfl sc_2 (hm.blk_cell 3 rfl rfl)) ?_
          intro a ht
          refine wpl rfl rfl ht (ev_load ht rfl rfl sc_2 (hm.blk_cell 5 rfl rfl)) ?_
          intro a ht
          refine wpl_build_ints (l := [xs0_6, xs1_2]) rfl rfl ht hm rfl und_25 zo_2 sz1_2 (by decide) rfl rfl rfl ?_
          intro A29 a ht w hm
          refine wpl rfl rfl ht (ev_move ht rfl rfl) ?_
          intro a ht
          refine wpl rfl rfl ht (ev_assign ht rfl rfl) ?_
          intro a ht
          refine wpl rfl rfl ht (ev_assign ht rfl rfl) ?_
          intro a ht
          refine wpList_nil ?_
          refine blk_normal ?_
          refine then_normal ?_
          refine wp_seq ?_
          refine wp_seq ?_
          refine wpr ?_
          refine wpl rfl rfl ht (ev_load ht rfl rfl sc_2 (hm.blk_cell 6 rfl rfl)) ?_
          intro a ht
          refine wpList_nil ?_
          refine then_normal ?_
          refine wpr ?_
          refine wpl_alloc rfl rfl ht hm rfl zo_2 ?_
          intro b30 a ht w hm
          refine wpl_store_blk 0 rfl rfl ht hm rfl rfl rfl sz1_2 rfl rfl rfl ?_
          intro a ht w hm
          refine wpList_nil ?_
          refine then_normal ?_
          refine wpr ?_
          refine wpl rfl rfl ht (ev_load ht rfl rfl sc_2 (hm.blk_cell 0 rfl rfl)) ?_
          intro a ht
          refine wpl rfl rfl ht (ev_arith ht rfl rfl rfl rfl) ?_
          intro a ht
          refine wpl_store_blk 0 rfl rfl ht hm rfl rfl rfl sz1_2 rfl rfl rfl ?_
          intro a ht w hm
          refine wpList_nil ?_
          replace hm := hm.pick (own' := [.blk b30 2 [.int .i64 (w64 (xs1_2 + 1))], .vec A29 2 2 1 2 (ints ([xs0_6, xs1_2])), .vec A24 c25 2 1 m26 (ints t23), .blk b 28 (Col.cells x), .blk b1 82 [.pointer (some ⟨b, 0, none⟩)], .blk b5 2 [.int .i64 xs0_6], .blk b2 2 [.int .i64 c], .blk bs1_1 2 [.int .i64 xs1_2]]) [0, 1, 2, 3, 4, 5, 6, 7] rfl (by decide)
          replace hm := hm.pick (own' := [.blk b30 2 [.int .i64 (w64 (xs1_2 + 1))], .vec A29 2 2 1 2 (ints ([xs0_6, xs1_2])), .vec A24 c25 2 1 m26 (ints t23), .blk b 28 (Col.cells x), .blk b1 82 [.pointer (some ⟨b, 0, none⟩)], .blk b5 2 [.int .i64 xs0_6], .blk b2 2 [.int .i64 c]]) [0, 1, 2, 3, 4, 5, 6] rfl (by decide)
          replace hm : Ms _ _ _ _ (NilE A29 ([xs0_6, xs1_2]) :: _) w := hm.addφ (NilE.ro (fun h => nomatch h))
          exact then_normal ⟨q7, by omega, (w64 (xs1_2 + 1)), ([xs0_6, xs1_2]), t27, b30, A29, 2, 2, H, by omega, ht.sub ⟨rfl, rfl, rfl, rfl, rfl, rfl, rfl, rfl, rfl, rfl, rfl, rfl, rfl, rfl, rfl, trivial⟩, (hm.pick [0, 5, 1, 6, 4, 3] rfl (by decide)).pickφ [0] rfl⟩
        · replace H := ite_no h28 H
          refine wpc_no ht rfl (decide_eq_false h28) ?_
          refine wp_skip ?_
          refine blk_normal ?_
          refine then_normal ?_
          refine wp_seq ?_
          refine wp_seq ?_
          refine wpr ?_
          refine wpl rfl rfl ht (ev_load ht rfl rfl sc_2 (hm.blk_cell 5 rfl rfl)) ?_
          intro a ht
          refine wpList_nil ?_
          refine then_normal ?_
          refine wpr ?_
          refine wpl_alloc rfl rfl ht hm rfl zo_2 ?_
          intro b32 a ht w hm
          refine wpl_store_blk 0 rfl rfl ht hm rfl rfl rfl sz1_2 rfl rfl rfl ?_
          intro a ht w hm
          refine wpList_nil ?_
          refine then_normal ?_
          refine wpr ?_
          refine wpl rfl rfl ht (ev_load ht rfl rfl sc_2 (hm.blk_cell 0 rfl rfl)) ?_
          intro a ht
          refine wpl rfl rfl ht (ev_arith ht rfl rfl rfl rfl) ?_
          intro a ht
          refine wpl_store_blk 0 rfl rfl ht hm rfl rfl rfl sz1_2 rfl rfl rfl ?_
          intro a ht w hm
          refine wpList_nil ?_
          replace hm := hm.pick (own' := [.blk b32 2 [.int .i64 (w64 (xs1_2 + 1))], .vec A24 c25 2 1 m26 (ints t23), .blk b 28 (Col.cells x), .blk b1 82 [.pointer (some ⟨b, 0, none⟩)], .blk b5 2 [.int .i64 xs0_6], .blk b2 2 [.int .i64 c], .vec As1_3 cs1_4 2 1 ms1_5 (ints ls1_6)]) [0, 1, 2, 3, 4, 5, 7] rfl (by decide)
          exact then_normal ⟨q7, by omega, (w64 (xs1_2 + 1)), ls1_6, xs1_7, b32, As1_3, cs1_4, ms1_5, H, by omega, ht.sub ⟨rfl, rfl, rfl, rfl, rfl, rfl, rfl, rfl, rfl, rfl, rfl, rfl, rfl, rfl, rfl, trivial⟩, (hm.pick [0, 4, 6, 5, 3, 2] rfl (by decide)).pickφ [0] rfl⟩
    · replace H := ite_no h8 H
      refine wpc_no ht rfl (decide_eq_false h8) ?_
      refine wp_exit ?_
      refine then_exit ?_
      refine then_exit ?_
      refine blk_hit ?_
      refine blk_normal ?_
      refine then_normal ?_
      refine wpr ?_
      refine wpl rfl rfl ht (ev_arith ht rfl rfl rfl rfl) ?_
      intro a ht
      refine wpl rfl rfl ht (ev_move ht rfl rfl) ?_
      intro a ht
      refine wpList_nil ?_
      exact then_normal ⟨q7, by omega, ls1_6, xs1_7, (w64 (xs0_6 + 1)), As1_3, cs1_4, ms1_5, H, by omega, ht.sub ⟨rfl, rfl, rfl, rfl, rfl, rfl, rfl, rfl, rfl, trivial⟩, (hm.pick [2, 3, 4, 5] rfl (by decide)).pickφ [0] rfl⟩
  · replace H := ite_no h4 H
    refine wpc_no ht rfl (decide_eq_false h4) ?_
    refine wp_exit ?_
    refine then_exit ?_
    refine then_exit ?_
    refine blk_hit ?_
    refine then_normal ?_
    refine wp_seq ?_
    refine wpr ?_
    refine wpl rfl rfl ht (ev_move ht rfl rfl) ?_
    intro a ht
    refine wpl rfl rfl ht (ev_move ht rfl rfl) ?_
    intro a ht
    refine wpl rfl rfl ht (ev_assign ht rfl rfl) ?_
    intro a ht
    refine wpl rfl rfl ht (ev_assign ht rfl rfl) ?_
    intro a ht
    refine wpList_nil ?_
    refine then_normal ?_
    refine wp_ret ?_
    have hres := ht.res (P := Try.prog) (w := w) (rs := [.tmp 6, .tmp 7]) (vs := [.slice As0_1 ms0_3 cs0_2, .int .i64 xs0_5]) (.tmp rfl (.tmp rfl .nil))
    obtain rfl := Option.some.inj H
    exact leave ht rfl hres ⟨As0_1, cs0_2, ms0_3, rfl, ((hm.pick [0, 3] rfl (by decide)).pickφ [0] rfl).post fun _ h => h⟩

/-! ### impl_Colouring_greatestDouble: function 81 ((*loop.example/g01362/impl.Colouring).greatestDouble) -/
def impl_Colouring_greatestDouble.f (k : Nat) (x : Col) (c : Int) (book : Bool) : Option (List Int × Int × Int) := (impl_Colouring_colourCode.f k x c true).bind fun t1 => if t1 ≠ 0 then (some (([] : List Int), 0, t1)) else ((impl_Colouring_double.f k x c book).bind fun t4 => if t4.1 = [] then (some (([] : List Int), 0, 4)) else (some (t4.1, t4.2, 0)))
set_option maxRecDepth 100000 in
set_option maxHeartbeats 1000000 in
theorem impl_Colouring_greatestDouble.calls (k : Nat) (X : List Nat) (w0 : World) (b : Nat) (x : Col) (c : Int) (book : Bool) (r : List Int × Int × Int)
    (hp : Pre X w0 [.blk b 28 (Col.cells x)] []) (H : impl_Colouring_greatestDouble.f k x c book = some r) :
    Calls Try.prog 81 [.pointer (some ⟨b, 0, none⟩), .int .i64 c, .bool book].toArray w0 (Ret fun v w => ∃ (A_0 : Option Addr) (c_0 : Nat) (n_0 : Nat), v = .tuple [.slice A_0 n_0 c_0, .int .i64 r.2.1, .int .i64 r.2.2].toArray ∧ Post X (fps [.blk b 28 (Col.cells x)]) w0 [.vec A_0 c_0 2 1 n_0 (ints r.1), .blk b 28 (Col.cells x)] [NilE A_0 r.1] w) := by
  unfold impl_Colouring_greatestDouble.f at H
  refine enterM (n := 29) hp Try.func81 rfl rfl (Nat.le_of_ble_eq_true rfl) fun a w ht hm => ?_
  refine wp_seq ?_
  refine wpr ?_
  refine wpl rfl rfl ht (ev_assign ht rfl rfl) ?_
  intro a ht
  refine wpl rfl rfl ht (ev_assign ht rfl rfl) ?_
  intro a ht
  refine wpl rfl rfl ht (ev_assign ht rfl rfl) ?_
  intro a ht
  refine wpList_nil ?_
  refine then_normal ?_
  refine wp_seq ?_
  refine wp_seq ?_
  refine wpr ?_
  refine wpl rfl rfl ht (ev_move ht rfl rfl) ?_
  intro a ht
  refine wpl rfl rfl ht (ev_move ht rfl rfl) ?_
  intro a ht
  obtain ⟨t1, et1, H⟩ := bind_get H
  have hcall := impl_Colouring_colourCode.calls k _ _ b x c true _ ((fun (hq : Ms _ _ _ ([.blk b 28 (Col.cells x)] ++ []) _ _) => hq.lend (φp := []) (allRO_nil)) (hm.pick (own' := [.blk b 28 (Col.cells x)] ++ []) [0] rfl (by decide))) et1
  refine wpl_call _ rfl rfl ht rfl rfl rfl rfl can_52 hcall ?_
  clear hcall
  rintro _ w ⟨rfl, hpost⟩ a ht
  replace hm := (hm.pick (own' := [.blk b 28 (Col.cells x)] ++ []) [0] rfl (by decide)).backL hpost
  clear hpost
  refine wpl rfl rfl ht (ev_assign ht rfl rfl) ?_
  intro a ht
  refine wpList_nil ?_
  refine then_normal ?_
  refine wp_seq ?_
  refine wpr ?_
  refine wpl rfl rfl ht (ev_move ht rfl rfl) ?_
  intro a ht
  refine wpl rfl rfl ht (ev_cmp ht rfl rfl rfl rfl) ?_
  intro a ht
  refine wpList_nil ?_
  refine then_normal ?_
  by_cases h2 : t1 ≠ 0
  · replace H := ite_yes h2 H
    refine wpc_yes ht rfl (decide_eq_true h2) ?_
    refine wp_seq ?_
    refine wpr ?_
    refine wpl rfl rfl ht (ev_move ht rfl rfl) ?_
    intro a ht
    refine wpl rfl rfl ht (ev_assign ht rfl rfl) ?_
    intro a ht
    refine wpl rfl rfl ht (ev_assign ht rfl rfl) ?_
    intro a ht
    refine wpl rfl rfl ht (ev_assign ht rfl rfl) ?_
    intro a ht
    refine wpList_nil ?_
    refine then_normal ?_
    refine wp_ret ?_
    refine then_ret ?_
    have hres := ht.res (P := Try.prog) (w := w) (rs := [.tmp 6, .tmp 7, .tmp 8]) (vs := [.slice none 0 0, .int .i64 0, .int .i64 t1]) (.tmp rfl (.tmp rfl (.tmp rfl .nil)))
    replace hm : Ms _ _ _ (.vec none 0 2 1 0 (ints ([] : List Int)) :: _) _ w := hm.nilVec none 2 1
    replace hm : Ms _ _ _ _ (NilE none ([] : List Int) :: _) w := hm.addφ (NilE.ro (fun h => rfl))
    obtain rfl := Option.some.inj H
    exact leave ht rfl hres ⟨none, 0, 0, rfl, ((hm.pick [0, 1] rfl (by decide)).pickφ [0] rfl).post fun _ h => h⟩
  · replace H := ite_no h2 H
    refine wpc_no ht rfl (decide_eq_false h2) ?_
    refine wp_skip ?_
    refine then_normal ?_
    refine wp_seq ?_
    refine wpr ?_
    refine wpl rfl rfl ht (ev_move ht rfl rfl) ?_
    intro a ht
    refine wpl rfl rfl ht (ev_move ht rfl rfl) ?_
    intro a ht
    refine wpl rfl rfl ht (ev_move ht rfl rfl) ?_
    intro a ht
    obtain ⟨t4, et4, H⟩ := bind_get H
    have hcall := impl_Colouring_double.calls k _ _ b x c book _ ((hm.pick (own' := [.blk b 28 (Col.cells x)] ++ []) [0] rfl (by decide)).give (passed := [.blk b 28 (Col.cells x)]) (rest := []) (φp := []) [] rfl) et4
    refine wpl_call _ rfl rfl ht rfl rfl rfl rfl can_103 hcall ?_
    clear hcall
    rintro _ w ⟨A5, c6, m7, rfl, hpost⟩ a ht
    replace hm := (hm.pick (own' := [.blk b 28 (Col.cells x)] ++ []) [0] rfl (by decide)).back hpost
    clear hpost
    refine wpl rfl rfl ht (ev_move ht rfl rfl) ?_
    intro a ht
    refine wpl rfl rfl ht (ev_extract ht rfl rfl rfl) ?_
    intro a ht
    refine wpl rfl rfl ht (ev_extract ht rfl rfl rfl) ?_
    intro a ht
    refine wpl rfl rfl ht (ev_assign ht rfl rfl) ?_
    intro a ht
    refine wpl rfl rfl ht (ev_assign ht rfl rfl) ?_
    intro a ht
    refine wpList_nil ?_
    refine then_normal ?_
    refine wp_seq ?_
    refine wp_seq ?_
    refine wpr ?_
    refine wpl rfl rfl ht (ev_move ht rfl rfl) ?_
    intro a ht
    refine wpl rfl rfl ht (ev_eq_nilE ht rfl rfl rfl und_25 (hm.vec_row 0 rfl) (hm.fact (φ := NilE A5 t4.1) 0 rfl)) ?_
    intro a ht
    refine wpList_nil ?_
    refine then_normal ?_
    by_cases h8 : t4.1 = []
    · replace H := ite_yes h8 H
      refine wpc_yes ht rfl (decide_eq_true h8) ?_
      refine wp_seq ?_
      refine wpr ?_
      refine wpl rfl rfl ht (ev_assign ht rfl rfl) ?_
      intro a ht
      refine wpl rfl rfl ht (ev_assign ht rfl rfl) ?_
      intro a ht
      refine wpl rfl rfl ht (ev_assign ht rfl rfl) ?_
      intro a ht
      refine wpList_nil ?_
      refine then_normal ?_
      refine wp_ret ?_
      refine then_ret ?_
      have hres := ht.res (P := Try.prog) (w := w) (rs := [.tmp 6, .tmp 7, .tmp 8]) (vs := [.slice none 0 0, .int .i64 0, .int .i64 4]) (.tmp rfl (.tmp rfl (.tmp rfl .nil)))
      replace hm : Ms _ _ _ (.vec none 0 2 1 0 (ints ([] : List Int)) :: _) _ w := hm.nilVec none 2 1
      replace hm : Ms _ _ _ _ (NilE none ([] : List Int) :: _) w := hm.addφ (NilE.ro (fun h => rfl))
      obtain rfl := Option.some.inj H
      exact leave ht rfl hres ⟨none, 0, 0, rfl, ((hm.pick [0, 2] rfl (by decide)).pickφ [0] rfl).post fun _ h => h⟩
    · replace H := ite_no h8 H
      refine wpc_no ht rfl (decide_eq_false h8) ?_
      refine wp_skip ?_
      refine then_normal ?_
      refine wp_seq ?_
      refine wpr ?_
      refine wpl rfl rfl ht (ev_move ht rfl rfl) ?_
      intro a ht
      refine wpl rfl rfl ht (ev_move ht rfl rfl) ?_
      intro a ht
      refine wpl rfl rfl ht (ev_assign ht rfl rfl) ?_
      intro a ht
      refine wpl rfl rfl ht (ev_assign ht rfl rfl) ?_
      intro a ht
      refine wpl rfl rfl ht (ev_assign ht rfl rfl) ?_
      intro a ht
      refine wpList_nil ?_
      refine then_normal ?_
      refine wp_ret ?_
      have hres := ht.res (P := Try.prog) (w := w) (rs := [.tmp 6, .tmp 7, .tmp 8]) (vs := [.slice A5 m7 c6, .int .i64 t4.2, .int .i64 0]) (.tmp rfl (.tmp rfl (.tmp rfl .nil)))
      obtain rfl := Option.some.inj H
      exact leave ht rfl hres ⟨A5, c6, m7, rfl, ((hm.pick [0, 1] rfl (by decide)).pickφ [0] rfl).post fun _ h => h⟩

/-! ### impl_GreatestDouble: function 39 (loop.example/g01362/impl.GreatestDouble) -/
def impl_GreatestDouble.f (k : Nat) (x : Col) (c : Int) : Option (List Int × Int × Int) := (impl_Colouring_greatestDouble.f k x c false).bind fun t2 => some (t2.1, t2.2.1, t2.2.2)
set_option maxRecDepth 100000 in
set_option maxHeartbeats 1000000 in
theorem impl_GreatestDouble.calls (k : Nat) (X : List Nat) (w0 : World)  (x : Col) (c : Int) (r : List Int × Int × Int)
    (hp : Pre X w0 [] []) (H : impl_GreatestDouble.f k x c = some r) :
    Calls Try.prog 39 [.agg (Col.cells x).toArray, .int .i64 c].toArray w0 (Ret fun v w => ∃ (A_0 : Option Addr) (c_0 : Nat) (n_0 : Nat), v = .tuple [.slice A_0 n_0 c_0, .int .i64 r.2.1, .int .i64 r.2.2].toArray ∧ Post X (fps []) w0 [.vec A_0 c_0 2 1 n_0 (ints r.1)] [NilE A_0 r.1] w) := by
  unfold impl_GreatestDouble.f at H
  refine enterM (n := 12) hp Try.func39 rfl rfl (Nat.le_of_ble_eq_true rfl) fun a w ht hm => ?_
  refine wp_seq ?_
  refine wpr ?_
  refine wpl_box rfl rfl ht hm rfl rfl rfl ?_
  intro b1 a ht w hm
  refine wpl rfl rfl ht (ev_assign ht rfl rfl) ?_
  intro a ht
  refine wpl rfl rfl ht (ev_assign ht rfl rfl) ?_
  intro a ht
  refine wpl rfl rfl ht (ev_assign ht rfl rfl) ?_
  intro a ht
  refine wpList_nil ?_
  refine then_normal ?_
  refine wp_seq ?_
  refine wpr ?_
  refine wpl rfl rfl ht (ev_move ht rfl rfl) ?_
  intro a ht
  obtain ⟨t2, et2, H⟩ := bind_get H
  have hcall := impl_Colouring_greatestDouble.calls k _ _ b1 x c false _ ((hm.pick (own' := [.blk b1 28 (Col.cells x)] ++ []) [0] rfl (by decide)).give (passed := [.blk b1 28 (Col.cells x)]) (rest := []) (φp := []) [] rfl) et2
  refine wpl_call _ rfl rfl ht rfl rfl rfl rfl can_81 hcall ?_
  clear hcall
  rintro _ w ⟨A3, c4, m5, rfl, hpost⟩ a ht
  replace hm := (hm.pick (own' := [.blk b1 28 (Col.cells x)] ++ []) [0] rfl (by decide)).back hpost
  clear hpost
  refine wpl rfl rfl ht (ev_extract ht rfl rfl rfl) ?_
  intro a ht
  refine wpl rfl rfl ht (ev_extract ht rfl rfl rfl) ?_
  intro a ht
  refine wpl rfl rfl ht (ev_extract ht rfl rfl rfl) ?_
  intro a ht
  refine wpl rfl rfl ht (ev_assign ht rfl rfl) ?_
  intro a ht
  refine wpl rfl rfl ht (ev_assign ht rfl rfl) ?_
  intro a ht
  refine wpl rfl rfl ht (ev_assign ht rfl rfl) ?_
  intro a ht
  refine wpList_nil ?_
  refine then_normal ?_
  refine wp_ret ?_
  have hres := ht.res (P := Try.prog) (w := w) (rs := [.tmp 4, .tmp 5, .tmp 6]) (vs := [.slice A3 m5 c4, .int .i64 t2.2.1, .int .i64 t2.2.2]) (.tmp rfl (.tmp rfl (.tmp rfl .nil)))
  obtain rfl := Option.some.inj H
  exact leave ht rfl hres ⟨A3, c4, m5, rfl, ((hm.pick [0] rfl (by decide)).pickφ [0] rfl).post fun _ h => h⟩

/-! ### laws_eqInt64S: function 17 (loop.example/g01362/laws.eqInt64S) -/
def laws_eqInt64S.l0 : Nat → List Int → List Int → Int → Option (Bool)
  | 0, _, _, _ => none
  | q2 + 1, a_, b, xs0_1 => if xs0_1 < (a_.length : Int) then ((getI a_ xs0_1).bind fun t4 => (getI b xs0_1).bind fun t5 => if t4 ≠ t5 then (some false) else (laws_eqInt64S.l0 q2 a_ b (w64 (xs0_1 + 1)))) else (some true)
def laws_eqInt64S.f (k : Nat) (a_ : List Int) (b : List Int) : Option (Bool) := if (a_.length : Int) ≠ (b.length : Int) then (some false) else (laws_eqInt64S.l0 k a_ b 0)
set_option maxRecDepth 100000 in
set_option maxHeartbeats 1000000 in
theorem laws_eqInt64S.calls (k : Nat) (X : List Nat) (w0 : World) (A : Option Addr) (c : Nat) (m : Nat) (A2 : Option Addr) (c2 : Nat) (m2 : Nat) (a_ : List Int) (b : List Int) (r : Bool)
    (hp : Pre X w0 [] [IntsAt A c m a_, IntsAt A2 c2 m2 b]) (H : laws_eqInt64S.f k a_ b = some r) :
    Calls Try.prog 17 [.slice A m c, .slice A2 m2 c2].toArray w0 (Ret fun v w => v = .bool r ∧ Post X (fps []) w0 [] [] w) := by
  unfold laws_eqInt64S.f at H
  refine enterM (n := 26) hp Try.func17 rfl rfl (Nat.le_of_ble_eq_true rfl) fun a w ht hm => ?_
  refine wp_seq ?_
  refine wpr ?_
  refine wpl rfl rfl ht (ev_assign ht rfl rfl) ?_
  intro a ht
  refine wpList_nil ?_
  refine then_normal ?_
  refine wp_seq ?_
  refine wp_seq ?_
  refine wpr ?_
  refine wpl rfl rfl ht (ev_move ht rfl rfl) ?_
  intro a ht
  refine wpl rfl rfl ht (ev_len_of ht rfl rfl und_25 (hm.fact (φ := IntsAt A c m a_) 0 rfl)) ?_
  intro a ht
  refine wpl rfl rfl ht (ev_move ht rfl rfl) ?_
  intro a ht
  refine wpl rfl rfl ht (ev_len_of ht rfl rfl und_25 (hm.fact (φ := IntsAt A2 c2 m2 b) 1 rfl)) ?_
  intro a ht
  refine wpl rfl rfl ht (ev_cmp ht rfl rfl rfl rfl) ?_
  intro a ht
  refine wpList_nil ?_
  refine then_normal ?_
  by_cases h1 : (a_.length : Int) ≠ (b.length : Int)
  · replace H := ite_yes h1 H
    refine wpc_yes ht rfl (decide_eq_true h1) ?_
    refine wp_seq ?_
    refine wpr ?_
    refine wpl rfl rfl ht (ev_assign ht rfl rfl) ?_
    intro a ht
    refine wpList_nil ?_
    refine then_normal ?_
    refine wp_ret ?_
    refine then_ret ?_
    have hres := ht.res (P := Try.prog) (w := w) (rs := [.tmp 4]) (vs := [.bool false]) (.tmp rfl .nil)
    obtain rfl := Option.some.inj H
    exact leave ht rfl hres ⟨rfl, ((hm.pick [] rfl (by decide)).pickφ [] rfl).post fun _ h => h⟩
  · replace H := ite_no h1 H
    refine wpc_no ht rfl (decide_eq_false h1) ?_
    refine wp_skip ?_
    refine then_normal ?_
    refine wp_seq ?_
    refine wp_seq ?_
    refine wpr ?_
    refine wpl rfl rfl ht (ev_assign ht rfl rfl) ?_
    intro a ht
    refine wpList_nil ?_
    refine then_normal ?_
    refine wp_block ?_
    refine wpLoop (fun q a w => ∃ (xs0_1 : Int), laws_eqInt64S.l0 q a_ b xs0_1 = some r ∧ q ≤ k ∧ Tm 26 [(0, .slice A m c), (1, .slice A2 m2 c2), (4, .bool false), (5, .int .i64 xs0_1)] a ∧ Ms X (fps []) w0 [] [IntsAt A c m a_, IntsAt A2 c2 m2 b] w) (k0 := k) ⟨0, H, Nat.le_refl _, ht.sub ⟨rfl, rfl, rfl, rfl, trivial⟩, (hm.pick [] rfl (by decide)).pickφ [0, 1] rfl⟩ ?_
    clear H ht hm
    intro q2 a w hJ
    obtain ⟨xs0_1, H, hqq2, ht, hm⟩ := hJ
    cases q2 with
    | zero => cases H
    | succ q2 =>
    rw [laws_eqInt64S.l0] at H
    refine wp_seq ?_
    refine wp_seq ?_
    refine wpr ?_
    refine wpl rfl rfl ht (ev_move ht rfl rfl) ?_
    intro a ht
    refine wpl rfl rfl ht (ev_move ht rfl rfl) ?_
    intro a ht
    refine wpl rfl rfl ht (ev_len_of ht rfl rfl und_25 (hm.fact (φ := IntsAt A c m a_) 0 rfl)) ?_
    intro a ht
    refine wpl rfl rfl ht (ev_cmp ht rfl rfl rfl rfl) ?_
    intro a ht
    refine wpList_nil ?_
    refine then_normal ?_
    by_cases h3 : xs0_1 < (a_.length : Int)
    · replace H := ite_yes h3 H
      refine wpc_yes ht rfl (decide_eq_true h3) ?_
      refine wp_skip ?_
      refine then_normal ?_
      refine wp_seq ?_
      refine wp_block ?_
      refine wp_seq ?_
      refine wph_begin (fun w => Ms X (fps []) w0 [] [IntsAt A c m a_, IntsAt A2 c2 m2 b] w) mixed ?_
      replace hm := hm.drew
      have hS : Ms X (fps []) w0 [] [IntsAt A c m a_, IntsAt A2 c2 m2 b] w.drew := (hm.pick [] rfl (by decide)).pickφ [0, 1] rfl
      generalize w.drew = w at hm hS ⊢
      refine wph_take (i := 0) rfl (by kernel_rfl) (by kernel_rfl) (by kernel_rfl) (fun _ _ _ h => h) rfl ht hS (wanted_plain rfl) (fun w hm => ev_move ht rfl rfl) ?_
      intro a ht
      refine wph_take (i := 1) rfl (by kernel_rfl) (by kernel_rfl) (by kernel_rfl) (fun _ _ _ h => h) rfl ht hS (wanted_plain rfl) (fun w hm => ev_move ht rfl rfl) ?_
      intro a ht
      obtain ⟨t4, et4, H⟩ := bind_get H
      refine wph_take (i := 2) rfl (by kernel_rfl) (by kernel_rfl) (by kernel_rfl) (fun _ _ _ h => h) rfl ht hS (wanted_plain rfl) (fun w hm => ev_index_ints ht rfl rfl rfl so_25 (hm.fact (φ := IntsAt A c m a_) 0 rfl) et4) ?_
      intro a ht
      refine wph_take (i := 3) rfl (by kernel_rfl) (by kernel_rfl) (by kernel_rfl) (fun _ _ _ h => h) rfl ht hS (wanted_plain rfl) (fun w hm => ev_load ht rfl rfl sc_2 (RowAt.cell (hm.fact (φ := IntsAt A c m a_) 0 rfl) (ints_get et4) rfl)) ?_
      intro a ht
      refine wph_take (i := 4) rfl (by kernel_rfl) (by kernel_rfl) (by kernel_rfl) (fun _ _ _ h => h) rfl ht hS (wanted_plain rfl) (fun w hm => ev_move ht rfl rfl) ?_
      intro a ht
      refine wph_take (i := 5) rfl (by kernel_rfl) (by kernel_rfl) (by kernel_rfl) (fun _ _ _ h => h) rfl ht hS (wanted_plain rfl) (fun w hm => ev_move ht rfl rfl) ?_
      intro a ht
      obtain ⟨t5, et5, H⟩ := bind_get H
      refine wph_take (i := 6) rfl (by kernel_rfl) (by kernel_rfl) (by kernel_rfl) (fun _ _ _ h => h) rfl ht hS (wanted_plain rfl) (fun w hm => ev_index_ints ht rfl rfl rfl so_25 (hm.fact (φ := IntsAt A2 c2 m2 b) 1 rfl) et5) ?_
      intro a ht
      refine wph_take (i := 7) rfl (by kernel_rfl) (by kernel_rfl) (by kernel_rfl) (fun _ _ _ h => h) rfl ht hS (wanted_plain rfl) (fun w hm => ev_load ht rfl rfl sc_2 (RowAt.cell (hm.fact (φ := IntsAt A2 c2 m2 b) 1 rfl) (ints_get et5) rfl)) ?_
      intro a ht
      refine wph_take (i := 8) rfl (by kernel_rfl) (by kernel_rfl) (by kernel_rfl) (fun _ _ _ h => h) rfl ht hS (wanted_plain rfl) (fun w hm => ev_cmp ht rfl rfl rfl rfl) ?_
      intro a ht
      refine wph_done (by kernel_rfl) ?_
      refine then_normal ?_
      by_cases h6 : t4 ≠ t5
      · replace H := ite_yes h6 H
        refine wpc_yes ht rfl (decide_eq_true h6) ?_
        refine wp_seq ?_
        refine wpr ?_
        refine wpl rfl rfl ht (ev_assign ht rfl rfl) ?_
        intro a ht
        refine wpList_nil ?_
        refine then_normal ?_
        refine wp_ret ?_
        refine blk_ret ?_
        refine then_ret ?_
        refine then_ret ?_
        refine blk_ret ?_
        refine then_ret ?_
        have hres := ht.res (P := Try.prog) (w := w) (rs := [.tmp 4]) (vs := [.bool false]) (.tmp rfl .nil)
        obtain rfl := Option.some.inj H
        exact leave ht rfl hres ⟨rfl, ((hm.pick [] rfl (by decide)).pickφ [] rfl).post fun _ h => h⟩
      · replace H := ite_no h6 H
        refine wpc_no ht rfl (decide_eq_false h6) ?_
        refine wp_skip ?_
        refine blk_normal ?_
        refine then_normal ?_
        refine wpr ?_
        refine wpl rfl rfl ht (ev_move ht rfl rfl) ?_
        intro a ht
        refine wpl rfl rfl ht (ev_arith ht rfl rfl rfl rfl) ?_
        intro a ht
        refine wpl rfl rfl ht (ev_assign ht rfl rfl) ?_
        intro a ht
        refine wpList_nil ?_
        exact then_normal ⟨q2, by omega, (w64 (xs0_1 + 1)), H, by omega, ht.sub ⟨rfl, rfl, rfl, rfl, trivial⟩, (hm.pick [] rfl (by decide)).pickφ [0, 1] rfl⟩
    · replace H := ite_no h3 H
      refine wpc_no ht rfl (decide_eq_false h3) ?_
      refine wp_exit ?_
      refine then_exit ?_
      refine then_exit ?_
      refine blk_hit ?_
      refine then_normal ?_
      refine wp_seq ?_
      refine wpr ?_
      refine wpl rfl rfl ht (ev_assign ht rfl rfl) ?_
      intro a ht
      refine wpList_nil ?_
      refine then_normal ?_
      refine wp_ret ?_
      have hres := ht.res (P := Try.prog) (w := w) (rs := [.tmp 4]) (vs := [.bool true]) (.tmp rfl .nil)
      obtain rfl := Option.some.inj H
      exact leave ht rfl hres ⟨rfl, ((hm.pick [] rfl (by decide)).pickφ [] rfl).post fun _ h => h⟩

end Go.Proofs.Ytfhbamlpnicomaa.G
