/- What each Go function computes, as a Lean function, and the proof that it does: written by a program of this session (wip/gen), part 9. -/
import Derived.Test.YtbgniopmmankdaaGFnExactIsSelfAlike8
namespace Go.Proofs.Ytbgniopmmankdaa.G
open Go Go.RowKit Go.Proofs.Ytbgniopmmankdaa.K
set_option linter.unusedVariables false
set_option linter.unusedSimpArgs false

/-! ### impl_Colouring_renumbering: function 75 ((*loop.example/g01362/impl.Colouring).renumbering) -/
def impl_Colouring_renumbering.f (k : Nat) (x : Col) (y : Col) : Option (List Int × Bool) := (impl_Colouring_leading__Colouring_renumbering_1.f k x y ([] : List Int)).bind fun t4 => some (t4.2, !t4.1)
set_option maxRecDepth 100000 in
set_option maxHeartbeats 20000000 in
theorem impl_Colouring_renumbering.calls (k : Nat) (X : List Nat) (w0 : World) (b : Nat) (b2 : Nat) (x : Col) (y : Col) (r : List Int × Bool)
    (hp : Pre X w0 [.blk b 27 (Col.cells x), .blk b2 27 (Col.cells y)] []) (H : impl_Colouring_renumbering.f k x y = some r) :
    Calls Try.prog 75 [.pointer (some ⟨b, 0, none⟩), .pointer (some ⟨b2, 0, none⟩)].toArray w0 (Ret fun v w => ∃ (A_0 : Option Addr) (c_0 : Nat) (n_0 : Nat), v = .tuple [.slice A_0 n_0 c_0, .bool r.2].toArray ∧ Post X (fps [.blk b 27 (Col.cells x), .blk b2 27 (Col.cells y)]) w0 [.vec A_0 c_0 2 1 n_0 (ints r.1), .blk b 27 (Col.cells x), .blk b2 27 (Col.cells y)] [] w) := by
  unfold impl_Colouring_renumbering.f at H
  refine enterM (n := 16) hp Try.func75 rfl rfl (Nat.le_of_ble_eq_true rfl) fun a w ht hm => ?_
  refine wp_seq ?_
  refine wpr ?_
  refine wpl rfl rfl ht (ev_assign ht rfl rfl) ?_
  intro a ht
  refine wpl rfl rfl ht (ev_assign ht rfl rfl) ?_
  intro a ht
  refine wpList_nil ?_
  refine then_normal ?_
  refine wp_seq ?_
  refine wpr ?_
  refine wpl_build_ints (l := ([] : List Int)) rfl rfl ht hm rfl und_43 zo_2 sz1_2 (by decide) rfl rfl rfl ?_
  intro A1 a ht w hm
  refine wpl_alloc rfl rfl ht hm rfl zo_43 ?_
  intro b3 a ht w hm
  refine wpl_store_blk 0 rfl rfl ht hm rfl rfl rfl sz1_43 rfl rfl rfl ?_
  intro a ht w hm
  refine wpList_nil ?_
  refine then_normal ?_
  refine wp_seq ?_
  refine wpr ?_
  refine wpl rfl rfl ht (ev_move ht rfl rfl) ?_
  intro a ht
  refine wpl rfl rfl ht (ev_move ht rfl rfl) ?_
  intro a ht
  refine wpl rfl rfl ht (ev_makeFunc ht rfl rfl rfl) ?_
  intro a ht
  obtain ⟨t4, et4, H⟩ := bind_get H
  have hcall := impl_Colouring_leading__Colouring_renumbering_1.calls k _ _ b b2 b3 A1 0 0 x y ([] : List Int) _ ((fun (hq : Ms _ _ _ ([.blk b 27 (Col.cells x), .blk b2 27 (Col.cells y), .blk b3 43 [.slice A1 0 0], .vec A1 0 2 1 0 (ints ([] : List Int))] ++ []) _ _) => hq.lend (φp := []) (allRO_nil)) (hm.pick (own' := [.blk b 27 (Col.cells x), .blk b2 27 (Col.cells y), .blk b3 43 [.slice A1 0 0], .vec A1 0 2 1 0 (ints ([] : List Int))] ++ []) [2, 3, 0, 1] rfl (by decide))) et4
  refine wpl_call _ rfl rfl ht rfl rfl rfl rfl can_25 hcall ?_
  clear hcall
  rintro _ w ⟨A5, c6, m7, rfl, hpost⟩ a ht
  replace hm := (hm.pick (own' := [.blk b 27 (Col.cells x), .blk b2 27 (Col.cells y), .blk b3 43 [.slice A1 0 0], .vec A1 0 2 1 0 (ints ([] : List Int))] ++ []) [2, 3, 0, 1] rfl (by decide)).backL hpost
  clear hpost
  refine wpl rfl rfl ht (ev_assign ht rfl rfl) ?_
  intro a ht
  refine wpList_nil ?_
  refine then_normal ?_
  refine wp_seq ?_
  refine wpr ?_
  refine wpl rfl rfl ht (ev_load ht rfl rfl sc_43 (hm.blk_cell 3 rfl rfl)) ?_
  intro a ht
  refine wpl rfl rfl ht (ev_move ht rfl rfl) ?_
  intro a ht
  refine wpl rfl rfl ht (ev_not ht rfl rfl) ?_
  intro a ht
  refine wpl rfl rfl ht (ev_assign ht rfl rfl) ?_
  intro a ht
  refine wpl rfl rfl ht (ev_assign ht rfl rfl) ?_
  intro a ht
  refine wpList_nil ?_
  refine then_normal ?_
  refine wp_ret ?_
  have hres := ht.res (P := Try.prog) (w := w) (rs := [.tmp 4, .tmp 5]) (vs := [.slice A5 m7 c6, .bool !t4.1]) (.tmp rfl (.tmp rfl .nil))
  obtain rfl := Option.some.inj H
  exact leave ht rfl hres ⟨A5, c6, m7, rfl, ((hm.pick [2, 0, 1] rfl (by decide)).pickφ [] rfl).post fun _ h => h⟩

/-! ### impl_Colouring_alike: function 59 ((*loop.example/g01362/impl.Colouring).alike) -/
def impl_Colouring_alike.l0 : Nat → Col → Int → List (List Int) → Int → Option (List Int × List Int × Bool)
  | 0, _, _, _, _ => none
  | q9 + 1, x, from_, t2, xs0_1 => if xs0_1 < (((t2.take (t2.length : Int).toNat).drop from_.toNat).length : Int) then ((getR ((t2.take (t2.length : Int).toNat).drop from_.toNat) xs0_1).bind fun l11 => (impl_Colouring_recoloured__Colouring_alike_1.f q9 x x.k l11).bind fun t17 => (impl_Colouring_renumbering.f q9 t17 x).bind fun t19 => if t19.2 = true then (some (l11, t19.1, true)) else (impl_Colouring_alike.l0 q9 x from_ t2 (w64 (xs0_1 + 1)))) else (some (([] : List Int), ([] : List Int), false))
def impl_Colouring_alike.f (k : Nat) (x : Col) (from_ : Int) : Option (List Int × List Int × Bool) := (impl_orders.f k x.k ([])).bind fun t2 => (guardO (0 ≤ from_ ∧ from_ ≤ (t2.length : Int) ∧ (t2.length : Int) ≤ (t2.length : Int))).bind fun _ => impl_Colouring_alike.l0 k x from_ t2 0
set_option maxRecDepth 100000 in
set_option maxHeartbeats 20000000 in
theorem impl_Colouring_alike.calls (k : Nat) (X : List Nat) (w0 : World) (b : Nat) (x : Col) (from_ : Int) (r : List Int × List Int × Bool)
    (hp : Pre X w0 [.blk b 27 (Col.cells x)] []) (H : impl_Colouring_alike.f k x from_ = some r) :
    Calls Try.prog 59 [.pointer (some ⟨b, 0, none⟩), .pointer (some ⟨b, 0, none⟩), .int .i64 from_].toArray w0 (Ret fun v w => ∃ (A_0 : Option Addr) (c_0 : Nat) (n_0 : Nat) (A_1 : Option Addr) (c_1 : Nat) (n_1 : Nat), v = .tuple [.slice A_0 n_0 c_0, .slice A_1 n_1 c_1, .bool r.2.2].toArray ∧ Post X (fps [.blk b 27 (Col.cells x)]) w0 [.vec A_1 c_1 2 1 n_1 (ints r.2.1), .blk b 27 (Col.cells x)] [IntsAt A_0 c_0 n_0 r.1] w) := by
  unfold impl_Colouring_alike.f at H
  refine enterM (n := 42) hp Try.func59 rfl rfl (Nat.le_of_ble_eq_true rfl) fun a w ht hm => ?_
  refine wp_seq ?_
  refine wpr ?_
  refine wpl rfl rfl ht (ev_assign ht rfl rfl) ?_
  intro a ht
  refine wpl rfl rfl ht (ev_assign ht rfl rfl) ?_
  intro a ht
  refine wpl rfl rfl ht (ev_assign ht rfl rfl) ?_
  intro a ht
  refine wpList_nil ?_
  refine then_normal ?_
  refine wp_seq ?_
  refine wp_seq ?_
  refine wpr ?_
  refine wpl rfl rfl ht (ev_move ht rfl rfl) ?_
  intro a ht
  refine wpl rfl rfl ht (ev_nilCheck ht rfl rfl) ?_
  intro a ht
  refine wpl rfl rfl ht (ev_fieldAddr ht rfl rfl fo_27_1) ?_
  intro a ht
  refine wpl rfl rfl ht (ev_load ht rfl rfl sc_2 (hm.blk_cell 0 rfl rfl)) ?_
  intro a ht
  replace hm : Ms _ _ _ _ (IntsAt none 0 0 ([] : List Int) :: _) w := hm.nilRow none 1
  obtain ⟨t2, et2, H⟩ := bind_get H
  have hcall := impl_orders.calls k _ _ none 0 0 x.k ([]) _ ((hm.pick (own' := [] ++ [.blk b 27 (Col.cells x)]) [0] rfl (by decide)).give (passed := []) (rest := [.blk b 27 (Col.cells x)]) (φp := [IntsAt none 0 0 ([] : List Int)]) [0] rfl) et2
  refine wpl_call _ rfl rfl ht rfl rfl rfl rfl can_30 hcall ?_
  clear hcall
  rintro _ w ⟨A3, c4, m5, vs6, rfl, hpost⟩ a ht
  replace hm := (hm.pick (own' := [] ++ [.blk b 27 (Col.cells x)]) [0] rfl (by decide)).back hpost
  clear hpost
  refine wpl rfl rfl ht (ev_move ht rfl rfl) ?_
  intro a ht
  replace hm : Ms _ _ _ _ (RowsAt A3 c4 m5 vs6 t2 :: _) w := hm.shutRows 0 0 rfl rfl
  obtain ⟨u7, eu7, H⟩ := bind_get H
  refine wpl rfl rfl ht (ev_slice_rows (k := .i64) (k' := .i64) (l := t2) (i := from_) (j := (t2.length : Int)) ht rfl rfl und_35 sz1_43 (hm.fact (φ := RowsAt A3 c4 m5 vs6 t2) 0 rfl) (.inr ⟨_, rfl, rfl⟩) (.inl ⟨rfl, rfl⟩) (guardO_get eu7)) ?_
  intro a ht
  replace hm : Ms _ _ _ _ (RowsAt (sliceA A3 from_.toNat c4) (c4 - from_.toNat) ((t2.length : Int).toNat - from_.toNat) ((vs6.take (t2.length : Int).toNat).drop from_.toNat) ((t2.take (t2.length : Int).toNat).drop from_.toNat) :: _) w := hm.addφ ((hm.ro (φ := RowsAt A3 c4 m5 vs6 t2) 0 rfl).mono fun w hh => RowsAt.slice hh (guardO_get eu7))
  refine wpl rfl rfl ht (ev_len_rows ht rfl rfl und_35 (hm.fact (φ := RowsAt (sliceA A3 from_.toNat c4) (c4 - from_.toNat) ((t2.length : Int).toNat - from_.toNat) ((vs6.take (t2.length : Int).toNat).drop from_.toNat) ((t2.take (t2.length : Int).toNat).drop from_.toNat)) 0 rfl)) ?_
  intro a ht
  refine wpl rfl rfl ht (ev_move ht rfl rfl) ?_
  intro a ht
  refine wpList_nil ?_
  refine then_normal ?_
  refine wp_block ?_
  refine wpLoop (fun q a w => ∃ (xs0_1 : Int), impl_Colouring_alike.l0 q x from_ t2 xs0_1 = some r ∧ q ≤ k ∧ Tm 42 [(0, .pointer (some ⟨b, 0, none⟩)), (1, .pointer (some ⟨b, 0, none⟩)), (6, .slice none 0 0), (7, .slice none 0 0), (8, .bool false), (20, .slice (sliceA A3 from_.toNat c4) ((t2.length : Int).toNat - from_.toNat) (c4 - from_.toNat)), (21, .int .i64 (((t2.take (t2.length : Int).toNat).drop from_.toNat).length : Int)), (22, .int .i64 xs0_1)] a ∧ Ms X (fps [.blk b 27 (Col.cells x)]) w0 [.blk b 27 (Col.cells x)] [RowsAt (sliceA A3 from_.toNat c4) (c4 - from_.toNat) ((t2.length : Int).toNat - from_.toNat) ((vs6.take (t2.length : Int).toNat).drop from_.toNat) ((t2.take (t2.length : Int).toNat).drop from_.toNat)] w) (k0 := k) ⟨0, H, Nat.le_refl _, ht.sub ⟨rfl, rfl, rfl, rfl, rfl, rfl, rfl, rfl, trivial⟩, (hm.pick [0] rfl (by decide)).pickφ [0] rfl⟩ ?_
  clear H ht hm
  intro q9 a w hJ
  obtain ⟨xs0_1, H, hqq9, ht, hm⟩ := hJ
  cases q9 with
  | zero => cases H
  | succ q9 =>
  rw [impl_Colouring_alike.l0] at H
  refine wp_seq ?_
  refine wpr ?_
  refine wpl rfl rfl ht (ev_cmp ht rfl rfl rfl rfl) ?_
  intro a ht
  refine wpList_nil ?_
  refine then_normal ?_
  refine wp_seq ?_
  by_cases h10 : xs0_1 < (((t2.take (t2.length : Int).toNat).drop from_.toNat).length : Int)
  · replace H := ite_yes h10 H
    refine wpc_yes ht rfl (decide_eq_true h10) ?_
    refine wp_skip ?_
    refine then_normal ?_
    refine wp_seq ?_
    refine wp_block ?_
    refine wp_seq ?_
    refine wpr ?_
    obtain ⟨l11, el11, H⟩ := bind_get H
    refine wpl rfl rfl ht (ev_index_rows ht rfl rfl rfl so_35 (hm.fact (φ := RowsAt (sliceA A3 from_.toNat c4) (c4 - from_.toNat) ((t2.length : Int).toNat - from_.toNat) ((vs6.take (t2.length : Int).toNat).drop from_.toNat) ((t2.take (t2.length : Int).toNat).drop from_.toNat)) 0 rfl) el11) ?_
    intro a ht
    obtain ⟨A12, c13, m14, hv15, hI⟩ := rowsAt_get (hm.fact (φ := RowsAt (sliceA A3 from_.toNat c4) (c4 - from_.toNat) ((t2.length : Int).toNat - from_.toNat) ((vs6.take (t2.length : Int).toNat).drop from_.toNat) ((t2.take (t2.length : Int).toNat).drop from_.toNat)) 0 rfl) el11
    refine wpl rfl rfl ht (ev_load ht rfl rfl sc_43 (RowsAt.cell (hm.fact (φ := RowsAt (sliceA A3 from_.toNat c4) (c4 - from_.toNat) ((t2.length : Int).toNat - from_.toNat) ((vs6.take (t2.length : Int).toNat).drop from_.toNat) ((t2.take (t2.length : Int).toNat).drop from_.toNat)) 0 rfl) hv15)) ?_
    intro a ht
    replace hm : Ms _ _ _ _ (IntsAt A12 c13 m14 l11 :: _) w := hm.addφ ((hm.ro 0 rfl).mono fun w h => rowsAt_at h hv15 el11)
    clear hI
    refine wpl_alloc rfl rfl ht hm rfl zo_43 ?_
    intro b16 a ht w hm
    refine wpl_store_blk 0 rfl rfl ht hm rfl rfl rfl sz1_43 rfl rfl rfl ?_
    intro a ht w hm
    refine wpList_nil ?_
    refine then_normal ?_
    refine wp_seq ?_
    refine wpr ?_
    refine wpl rfl rfl ht (ev_move ht rfl rfl) ?_
    intro a ht
    refine wpl rfl rfl ht (ev_move ht rfl rfl) ?_
    intro a ht
    refine wpl rfl rfl ht (ev_nilCheck ht rfl rfl) ?_
    intro a ht
    refine wpl rfl rfl ht (ev_fieldAddr ht rfl rfl fo_27_1) ?_
    intro a ht
    refine wpl rfl rfl ht (ev_load ht rfl rfl sc_2 (hm.blk_cell 1 rfl rfl)) ?_
    intro a ht
    refine wpl rfl rfl ht (ev_makeFunc ht rfl rfl rfl) ?_
    intro a ht
    obtain ⟨t17, et17, H⟩ := bind_get H
    have hcall := impl_Colouring_recoloured__Colouring_alike_1.calls q9 _ _ b b16 A12 c13 m14 x x.k l11 _ ((fun (hq : Ms _ _ _ ([.blk b 27 (Col.cells x), .blk b16 43 [.slice A12 m14 c13]] ++ []) _ _) => hq.lend (φp := [IntsAt A12 c13 m14 l11]) (allRO_cons (hq.lendFact 0 rfl) (allRO_nil))) (hm.pick (own' := [.blk b 27 (Col.cells x), .blk b16 43 [.slice A12 m14 c13]] ++ []) [1, 0] rfl (by decide))) et17
    refine wpl_call _ rfl rfl ht rfl rfl rfl rfl can_73 hcall ?_
    clear hcall
    rintro _ w ⟨rfl, hpost⟩ a ht
    replace hm := (hm.pick (own' := [.blk b 27 (Col.cells x), .blk b16 43 [.slice A12 m14 c13]] ++ []) [1, 0] rfl (by decide)).backL hpost
    clear hpost
    refine wpl_alloc rfl rfl ht hm rfl zo_27 ?_
    intro b18 a ht w hm
    refine wpl_store_whole 0 rfl rfl ht hm rfl rfl rfl (szn_27.trans (by first | rw [Col.length_cells] | rfl)) rfl (by simp only [Col.length_cells]) (Col.cells_one _) ?_
    intro a ht w hm
    refine wpList_nil ?_
    refine then_normal ?_
    refine wp_seq ?_
    refine wpr ?_
    refine wpl rfl rfl ht (ev_move ht rfl rfl) ?_
    intro a ht
    obtain ⟨t19, et19, H⟩ := bind_get H
    have hcall := impl_Colouring_renumbering.calls q9 _ _ b18 b t17 x _ ((fun (hq : Ms _ _ _ ([.blk b18 27 (Col.cells t17), .blk b 27 (Col.cells x)] ++ [.blk b16 43 [.slice A12 m14 c13]]) _ _) => hq.lend (φp := []) (allRO_nil)) (hm.pick (own' := [.blk b18 27 (Col.cells t17), .blk b 27 (Col.cells x)] ++ [.blk b16 43 [.slice A12 m14 c13]]) [0, 1, 2] rfl (by decide))) et19
    refine wpl_call _ rfl rfl ht rfl rfl rfl rfl can_75 hcall ?_
    clear hcall
    rintro _ w ⟨A20, c21, m22, rfl, hpost⟩ a ht
    replace hm := (hm.pick (own' := [.blk b18 27 (Col.cells t17), .blk b 27 (Col.cells x)] ++ [.blk b16 43 [.slice A12 m14 c13]]) [0, 1, 2] rfl (by decide)).backL hpost
    clear hpost
    refine wpl rfl rfl ht (ev_move ht rfl rfl) ?_
    intro a ht
    refine wpl rfl rfl ht (ev_extract ht rfl rfl rfl) ?_
    intro a ht
    refine wpl rfl rfl ht (ev_extract ht rfl rfl rfl) ?_
    intro a ht
    refine wpl rfl rfl ht (ev_assign ht rfl rfl) ?_
    intro a ht
    refine wpl rfl rfl ht (ev_assign ht rfl rfl) ?_
    intro a ht
    refine wpList_nil ?_
    refine then_normal ?_
    refine wp_seq ?_
    refine wpr ?_
    refine wpl rfl rfl ht (ev_move ht rfl rfl) ?_
    intro a ht
    refine wpList_nil ?_
    refine then_normal ?_
    by_cases h23 : t19.2 = true
    · replace H := ite_yes h23 H
      refine wpc_yes ht rfl h23 ?_
      refine wp_seq ?_
      refine wpr ?_
      refine wpl rfl rfl ht (ev_load ht rfl rfl sc_43 (hm.blk_cell 3 rfl rfl)) ?_
      intro a ht
      refine wpl rfl rfl ht (ev_move ht rfl rfl) ?_
      intro a ht
      refine wpl rfl rfl ht (ev_assign ht rfl rfl) ?_
      intro a ht
      refine wpl rfl rfl ht (ev_assign ht rfl rfl) ?_
      intro a ht
      refine wpl rfl rfl ht (ev_assign ht rfl rfl) ?_
      intro a ht
      refine wpList_nil ?_
      refine then_normal ?_
      refine wp_ret ?_
      refine blk_ret ?_
      refine then_ret ?_
      refine then_ret ?_
      refine blk_ret ?_
      refine then_ret ?_
      have hres := ht.res (P := Try.prog) (w := w) (rs := [.tmp 6, .tmp 7, .tmp 8]) (vs := [.slice A12 m14 c13, .slice A20 m22 c21, .bool true]) (.tmp rfl (.tmp rfl (.tmp rfl .nil)))
      obtain rfl := Option.some.inj H
      exact leave ht rfl hres ⟨A12, c13, m14, A20, c21, m22, rfl, ((hm.pick [0, 2] rfl (by decide)).pickφ [0] rfl).post fun _ h => h⟩
    · replace H := ite_no h23 H
      refine wpc_no ht rfl (Bool.eq_false_iff.mpr h23) ?_
      refine wp_skip ?_
      refine blk_normal ?_
      refine then_normal ?_
      refine wpr ?_
      refine wpl rfl rfl ht (ev_arith ht rfl rfl rfl rfl) ?_
      intro a ht
      refine wpl rfl rfl ht (ev_move ht rfl rfl) ?_
      intro a ht
      refine wpList_nil ?_
      exact then_normal ⟨q9, by omega, (w64 (xs0_1 + 1)), H, by omega, ht.sub ⟨rfl, rfl, rfl, rfl, rfl, rfl, rfl, rfl, trivial⟩, (hm.pick [2] rfl (by decide)).pickφ [1] rfl⟩
  · replace H := ite_no h10 H
    refine wpc_no ht rfl (decide_eq_false h10) ?_
    refine wp_exit ?_
    refine then_exit ?_
    refine then_exit ?_
    refine blk_hit ?_
    refine then_normal ?_
    refine wp_seq ?_
    refine wpr ?_
    refine wpl rfl rfl ht (ev_assign ht rfl rfl) ?_
    intro a ht
    refine wpl rfl rfl ht (ev_assign ht rfl rfl) ?_
    intro a ht
    refine wpl rfl rfl ht (ev_assign ht rfl rfl) ?_
    intro a ht
    refine wpList_nil ?_
    refine then_normal ?_
    refine wp_ret ?_
    have hres := ht.res (P := Try.prog) (w := w) (rs := [.tmp 6, .tmp 7, .tmp 8]) (vs := [.slice none 0 0, .slice none 0 0, .bool false]) (.tmp rfl (.tmp rfl (.tmp rfl .nil)))
    replace hm : Ms _ _ _ _ (IntsAt none 0 0 ([] : List Int) :: _) w := hm.nilRow none 1
    replace hm : Ms _ _ _ (.vec none 0 2 1 0 (ints ([] : List Int)) :: _) _ w := hm.nilVec none 2 1
    obtain rfl := Option.some.inj H
    exact leave ht rfl hres ⟨none, 0, 0, none, 0, 0, rfl, ((hm.pick [0, 1] rfl (by decide)).pickφ [0] rfl).post fun _ h => h⟩

/-! ### impl_Colouring_isSelfAlike: function 35 ((*loop.example/g01362/impl.Colouring).isSelfAlike) -/
def impl_Colouring_isSelfAlike.f (k : Nat) (x : Col) : Option (Bool) := (impl_Colouring_alike.f k x 1).bind fun t1 => some t1.2.2
set_option maxRecDepth 100000 in
set_option maxHeartbeats 20000000 in
theorem impl_Colouring_isSelfAlike.calls (k : Nat) (X : List Nat) (w0 : World) (b : Nat) (x : Col) (r : Bool)
    (hp : Pre X w0 [.blk b 27 (Col.cells x)] []) (H : impl_Colouring_isSelfAlike.f k x = some r) :
    Calls Try.prog 35 [.pointer (some ⟨b, 0, none⟩)].toArray w0 (Ret fun v w => v = .bool r ∧ Post X (fps [.blk b 27 (Col.cells x)]) w0 [.blk b 27 (Col.cells x)] [] w) := by
  unfold impl_Colouring_isSelfAlike.f at H
  refine enterM (n := 14) hp Try.func35 rfl rfl (Nat.le_of_ble_eq_true rfl) fun a w ht hm => ?_
  refine wp_seq ?_
  refine wpr ?_
  refine wpl rfl rfl ht (ev_assign ht rfl rfl) ?_
  intro a ht
  refine wpList_nil ?_
  refine then_normal ?_
  refine wp_seq ?_
  refine wpr ?_
  refine wpl rfl rfl ht (ev_move ht rfl rfl) ?_
  intro a ht
  refine wpl rfl rfl ht (ev_move ht rfl rfl) ?_
  intro a ht
  obtain ⟨t1, et1, H⟩ := bind_get H
  have hcall := impl_Colouring_alike.calls k _ _ b x 1 _ ((hm.pick (own' := [.blk b 27 (Col.cells x)] ++ []) [0] rfl (by decide)).give (passed := [.blk b 27 (Col.cells x)]) (rest := []) (φp := []) [] rfl) et1
  refine wpl_call _ rfl rfl ht rfl rfl rfl rfl can_59 hcall ?_
  clear hcall
  rintro _ w ⟨A2, c3, m4, A5, c6, m7, rfl, hpost⟩ a ht
  replace hm := (hm.pick (own' := [.blk b 27 (Col.cells x)] ++ []) [0] rfl (by decide)).back hpost
  clear hpost
  refine wpl rfl rfl ht (ev_move ht rfl rfl) ?_
  intro a ht
  refine wpl rfl rfl ht (ev_extract ht rfl rfl rfl) ?_
  intro a ht
  refine wpl rfl rfl ht (ev_extract ht rfl rfl rfl) ?_
  intro a ht
  refine wpl rfl rfl ht (ev_extract ht rfl rfl rfl) ?_
  intro a ht
  refine wpl rfl rfl ht (ev_assign ht rfl rfl) ?_
  intro a ht
  refine wpl rfl rfl ht (ev_assign ht rfl rfl) ?_
  intro a ht
  refine wpl rfl rfl ht (ev_assign ht rfl rfl) ?_
  intro a ht
  refine wpList_nil ?_
  refine then_normal ?_
  refine wp_seq ?_
  refine wpr ?_
  refine wpl rfl rfl ht (ev_move ht rfl rfl) ?_
  intro a ht
  refine wpl rfl rfl ht (ev_assign ht rfl rfl) ?_
  intro a ht
  refine wpList_nil ?_
  refine then_normal ?_
  refine wp_ret ?_
  have hres := ht.res (P := Try.prog) (w := w) (rs := [.tmp 2]) (vs := [.bool t1.2.2]) (.tmp rfl .nil)
  obtain rfl := Option.some.inj H
  exact leave ht rfl hres ⟨rfl, ((hm.pick [1] rfl (by decide)).pickφ [] rfl).post fun _ h => h⟩

/-! ### impl_IsSelfAlike: function 14 (loop.example/g01362/impl.IsSelfAlike) -/
def impl_IsSelfAlike.f (k : Nat) (x : Col) : Option (Bool × Int) := (impl_Colouring_code__always.f k x).bind fun t2 => if t2 ≠ 0 then (some (false, t2)) else ((impl_Colouring_isSelfAlike.f k x).bind fun t4 => some (t4, 0))
set_option maxRecDepth 100000 in
set_option maxHeartbeats 20000000 in
theorem impl_IsSelfAlike.calls (k : Nat) (X : List Nat) (w0 : World)  (x : Col) (r : Bool × Int)
    (hp : Pre X w0 [] []) (H : impl_IsSelfAlike.f k x = some r) :
    Calls Try.prog 14 [.agg (Col.cells x).toArray].toArray w0 (Ret fun v w => v = .tuple [.bool r.1, .int .i64 r.2].toArray ∧ Post X (fps []) w0 [] [] w) := by
  unfold impl_IsSelfAlike.f at H
  refine enterM (n := 10) hp Try.func14 rfl rfl (Nat.le_of_ble_eq_true rfl) fun a w ht hm => ?_
  refine wp_seq ?_
  refine wpr ?_
  refine wpl_box rfl rfl ht hm rfl rfl rfl ?_
  intro b1 a ht w hm
  refine wpl rfl rfl ht (ev_assign ht rfl rfl) ?_
  intro a ht
  refine wpl rfl rfl ht (ev_assign ht rfl rfl) ?_
  intro a ht
  refine wpList_nil ?_
  refine then_normal ?_
  refine wp_seq ?_
  refine wp_seq ?_
  refine wpr ?_
  obtain ⟨t2, et2, H⟩ := bind_get H
  have hcall := impl_Colouring_code__always.calls k _ _ b1 x _ ((fun (hq : Ms _ _ _ ([.blk b1 27 (Col.cells x)] ++ []) _ _) => hq.lend (φp := []) (allRO_nil)) (hm.pick (own' := [.blk b1 27 (Col.cells x)] ++ []) [0] rfl (by decide))) et2
  refine wpl_call _ rfl rfl ht rfl rfl rfl rfl can_23 hcall ?_
  clear hcall
  rintro _ w ⟨rfl, hpost⟩ a ht
  replace hm := (hm.pick (own' := [.blk b1 27 (Col.cells x)] ++ []) [0] rfl (by decide)).backL hpost
  clear hpost
  refine wpl rfl rfl ht (ev_assign ht rfl rfl) ?_
  intro a ht
  refine wpList_nil ?_
  refine then_normal ?_
  refine wp_seq ?_
  refine wpr ?_
  refine wpl rfl rfl ht (ev_move ht rfl rfl) ?_
  intro a ht
  refine wpl rfl rfl ht (ev_cmp ht rfl rfl rfl rfl) ?_
  intro a ht
  refine wpList_nil ?_
  refine then_normal ?_
  by_cases h3 : t2 ≠ 0
  · replace H := ite_yes h3 H
    refine wpc_yes ht rfl (decide_eq_true h3) ?_
    refine wp_seq ?_
    refine wpr ?_
    refine wpl rfl rfl ht (ev_move ht rfl rfl) ?_
    intro a ht
    refine wpl rfl rfl ht (ev_assign ht rfl rfl) ?_
    intro a ht
    refine wpl rfl rfl ht (ev_assign ht rfl rfl) ?_
    intro a ht
    refine wpList_nil ?_
    refine then_normal ?_
    refine wp_ret ?_
    refine then_ret ?_
    have hres := ht.res (P := Try.prog) (w := w) (rs := [.tmp 2, .tmp 3]) (vs := [.bool false, .int .i64 t2]) (.tmp rfl (.tmp rfl .nil))
    obtain rfl := Option.some.inj H
    exact leave ht rfl hres ⟨rfl, ((hm.pick [] rfl (by decide)).pickφ [] rfl).post fun _ h => h⟩
  · replace H := ite_no h3 H
    refine wpc_no ht rfl (decide_eq_false h3) ?_
    refine wp_skip ?_
    refine then_normal ?_
    refine wp_seq ?_
    refine wpr ?_
    obtain ⟨t4, et4, H⟩ := bind_get H
    have hcall := impl_Colouring_isSelfAlike.calls k _ _ b1 x _ ((fun (hq : Ms _ _ _ ([.blk b1 27 (Col.cells x)] ++ []) _ _) => hq.lend (φp := []) (allRO_nil)) (hm.pick (own' := [.blk b1 27 (Col.cells x)] ++ []) [0] rfl (by decide))) et4
    refine wpl_call _ rfl rfl ht rfl rfl rfl rfl can_35 hcall ?_
    clear hcall
    rintro _ w ⟨rfl, hpost⟩ a ht
    replace hm := (hm.pick (own' := [.blk b1 27 (Col.cells x)] ++ []) [0] rfl (by decide)).backL hpost
    clear hpost
    refine wpl rfl rfl ht (ev_assign ht rfl rfl) ?_
    intro a ht
    refine wpl rfl rfl ht (ev_assign ht rfl rfl) ?_
    intro a ht
    refine wpList_nil ?_
    refine then_normal ?_
    refine wp_ret ?_
    have hres := ht.res (P := Try.prog) (w := w) (rs := [.tmp 2, .tmp 3]) (vs := [.bool t4, .int .i64 0]) (.tmp rfl (.tmp rfl .nil))
    obtain rfl := Option.some.inj H
    exact leave ht rfl hres ⟨rfl, ((hm.pick [] rfl (by decide)).pickφ [] rfl).post fun _ h => h⟩

/-! ### laws_FnExactIsSelfAlike: function 5 (loop.example/g01362/laws.FnExactIsSelfAlike) -/
def laws_FnExactIsSelfAlike.f (k : Nat) (aX : Col) : Option (Bool) := (laws_toColouring.f k aX).bind fun t2 => (spec_IsSelfAlike.f k t2).bind fun t3 => (laws_toColouring.f k aX).bind fun t4 => (impl_IsSelfAlike.f k t4).bind fun t5 => if (t5.1 != t3.1) = true then (some false) else (if t5.2 ≠ t3.2 then (some false) else (some true))
set_option maxRecDepth 100000 in
set_option maxHeartbeats 20000000 in
theorem laws_FnExactIsSelfAlike.calls (k : Nat) (X : List Nat) (w0 : World)  (aX : Col) (r : Bool)
    (hp : Pre X w0 [] []) (H : laws_FnExactIsSelfAlike.f k aX = some r) :
    Calls Try.prog 5 [.agg (Col.cells aX).toArray].toArray w0 (Ret fun v w => v = .bool r ∧ Post X (fps []) w0 [] [] w) := by
  unfold laws_FnExactIsSelfAlike.f at H
  refine enterM (n := 27) hp Try.func5 rfl rfl (Nat.le_of_ble_eq_true rfl) fun a w ht hm => ?_
  refine wp_seq ?_
  refine wpr ?_
  refine wpl_box rfl rfl ht hm rfl rfl rfl ?_
  intro b1 a ht w hm
  refine wpl rfl rfl ht (ev_assign ht rfl rfl) ?_
  intro a ht
  refine wpList_nil ?_
  refine then_normal ?_
  refine wp_seq ?_
  refine wpr ?_
  refine wpl rfl rfl ht (ev_load_agg ht rfl rfl (ag_24.trans (by first | rw [Col.length_cells] | rfl)) (hm.blk_all 0 rfl)) ?_
  intro a ht
  obtain ⟨t2, et2, H⟩ := bind_get H
  have hcall := laws_toColouring.calls k _ _ aX _ ((fun (hq : Ms _ _ _ ([] ++ [.blk b1 24 (Col.cells aX)]) _ _) => hq.lend (φp := []) (allRO_nil)) (hm.pick (own' := [] ++ [.blk b1 24 (Col.cells aX)]) [0] rfl (by decide))) et2
  refine wpl_call _ rfl rfl ht rfl rfl rfl rfl can_8 hcall ?_
  clear hcall
  rintro _ w ⟨rfl, hpost⟩ a ht
  replace hm := (hm.pick (own' := [] ++ [.blk b1 24 (Col.cells aX)]) [0] rfl (by decide)).backL hpost
  clear hpost
  obtain ⟨t3, et3, H⟩ := bind_get H
  have hcall := spec_IsSelfAlike.calls k _ _ t2 _ ((fun (hq : Ms _ _ _ ([] ++ [.blk b1 24 (Col.cells aX)]) _ _) => hq.lend (φp := []) (allRO_nil)) (hm.pick (own' := [] ++ [.blk b1 24 (Col.cells aX)]) [0] rfl (by decide))) et3
  refine wpl_call _ rfl rfl ht rfl rfl rfl rfl can_13 hcall ?_
  clear hcall
  rintro _ w ⟨rfl, hpost⟩ a ht
  replace hm := (hm.pick (own' := [] ++ [.blk b1 24 (Col.cells aX)]) [0] rfl (by decide)).backL hpost
  clear hpost
  refine wpl rfl rfl ht (ev_move ht rfl rfl) ?_
  intro a ht
  refine wpl rfl rfl ht (ev_extract ht rfl rfl rfl) ?_
  intro a ht
  refine wpl rfl rfl ht (ev_extract ht rfl rfl rfl) ?_
  intro a ht
  refine wpl rfl rfl ht (ev_assign ht rfl rfl) ?_
  intro a ht
  refine wpl rfl rfl ht (ev_assign ht rfl rfl) ?_
  intro a ht
  refine wpList_nil ?_
  refine then_normal ?_
  refine wp_seq ?_
  refine wpr ?_
  refine wpl rfl rfl ht (ev_load_agg ht rfl rfl (ag_24.trans (by first | rw [Col.length_cells] | rfl)) (hm.blk_all 0 rfl)) ?_
  intro a ht
  obtain ⟨t4, et4, H⟩ := bind_get H
  have hcall := laws_toColouring.calls k _ _ aX _ ((fun (hq : Ms _ _ _ ([] ++ [.blk b1 24 (Col.cells aX)]) _ _) => hq.lend (φp := []) (allRO_nil)) (hm.pick (own' := [] ++ [.blk b1 24 (Col.cells aX)]) [0] rfl (by decide))) et4
  refine wpl_call _ rfl rfl ht rfl rfl rfl rfl can_8 hcall ?_
  clear hcall
  rintro _ w ⟨rfl, hpost⟩ a ht
  replace hm := (hm.pick (own' := [] ++ [.blk b1 24 (Col.cells aX)]) [0] rfl (by decide)).backL hpost
  clear hpost
  obtain ⟨t5, et5, H⟩ := bind_get H
  have hcall := impl_IsSelfAlike.calls k _ _ t4 _ ((fun (hq : Ms _ _ _ ([] ++ [.blk b1 24 (Col.cells aX)]) _ _) => hq.lend (φp := []) (allRO_nil)) (hm.pick (own' := [] ++ [.blk b1 24 (Col.cells aX)]) [0] rfl (by decide))) et5
  refine wpl_call _ rfl rfl ht rfl rfl rfl rfl can_14 hcall ?_
  clear hcall
  rintro _ w ⟨rfl, hpost⟩ a ht
  replace hm := (hm.pick (own' := [] ++ [.blk b1 24 (Col.cells aX)]) [0] rfl (by decide)).backL hpost
  clear hpost
  refine wpl rfl rfl ht (ev_move ht rfl rfl) ?_
  intro a ht
  refine wpl rfl rfl ht (ev_extract ht rfl rfl rfl) ?_
  intro a ht
  refine wpl rfl rfl ht (ev_extract ht rfl rfl rfl) ?_
  intro a ht
  refine wpl rfl rfl ht (ev_assign ht rfl rfl) ?_
  intro a ht
  refine wpl rfl rfl ht (ev_assign ht rfl rfl) ?_
  intro a ht
  refine wpList_nil ?_
  refine then_normal ?_
  refine wp_seq ?_
  refine wp_seq ?_
  refine wpr ?_
  refine wpl rfl rfl ht (ev_move ht rfl rfl) ?_
  intro a ht
  refine wpl rfl rfl ht (ev_move ht rfl rfl) ?_
  intro a ht
  refine wpl rfl rfl ht (ev_ne_bool ht rfl rfl rfl und_4) ?_
  intro a ht
  refine wpl rfl rfl ht (ev_move ht rfl rfl) ?_
  intro a ht
  by_cases h6 : (t5.1 != t3.1) = true
  · replace H := ite_yes h6 H
    refine wpl_no rfl rfl ht rfl (by rw [h6]; decide) ?_
    intro a ht
    refine wpl_no rfl rfl ht rfl (by rw [h6]; decide) ?_
    intro a ht
    refine wpl_no rfl rfl ht rfl (by rw [h6]; decide) ?_
    intro a ht
    refine wpl rfl rfl ht (ev_pick_yes ht rfl rfl h6 rfl) ?_
    intro a ht
    refine wpList_nil ?_
    refine then_normal ?_
    refine wpc_yes ht rfl rfl ?_
    refine wp_seq ?_
    refine wpr ?_
    refine wpl rfl rfl ht (ev_assign ht rfl rfl) ?_
    intro a ht
    refine wpList_nil ?_
    refine then_normal ?_
    refine wp_ret ?_
    refine then_ret ?_
    have hres := ht.res (P := Try.prog) (w := w) (rs := [.tmp 2]) (vs := [.bool false]) (.tmp rfl .nil)
    obtain rfl := Option.some.inj H
    exact leave ht rfl hres ⟨rfl, ((hm.pick [] rfl (by decide)).pickφ [] rfl).post fun _ h => h⟩
  · replace H := ite_no h6 H
    refine wpl_yes rfl ht rfl ((Bool.eq_false_iff.mpr h6)) ?_
    refine wpl rfl rfl ht (ev_move ht rfl rfl) ?_
    intro a ht
    refine wpl_yes rfl ht rfl ((Bool.eq_false_iff.mpr h6)) ?_
    refine wpl rfl rfl ht (ev_move ht rfl rfl) ?_
    intro a ht
    refine wpl_yes rfl ht rfl ((Bool.eq_false_iff.mpr h6)) ?_
    refine wpl rfl rfl ht (ev_cmp ht rfl rfl rfl rfl) ?_
    intro a ht
    refine wpl rfl rfl ht (ev_pick_no ht rfl rfl (Bool.eq_false_iff.mpr h6) rfl) ?_
    intro a ht
    refine wpList_nil ?_
    refine then_normal ?_
    by_cases h7 : t5.2 ≠ t3.2
    · replace H := ite_yes h7 H
      refine wpc_yes ht rfl (decide_eq_true h7) ?_
      refine wp_seq ?_
      refine wpr ?_
      refine wpl rfl rfl ht (ev_assign ht rfl rfl) ?_
      intro a ht
      refine wpList_nil ?_
      refine then_normal ?_
      refine wp_ret ?_
      refine then_ret ?_
      have hres := ht.res (P := Try.prog) (w := w) (rs := [.tmp 2]) (vs := [.bool false]) (.tmp rfl .nil)
      obtain rfl := Option.some.inj H
      exact leave ht rfl hres ⟨rfl, ((hm.pick [] rfl (by decide)).pickφ [] rfl).post fun _ h => h⟩
    · replace H := ite_no h7 H
      refine wpc_no ht rfl (decide_eq_false h7) ?_
      refine wp_skip ?_
      refine then_normal ?_
      refine wp_seq ?_
      refine wpr ?_
      refine wpl rfl rfl ht (ev_assign ht rfl rfl) ?_
      intro a ht
      refine wpList_nil ?_
      refine then_normal ?_
      refine wp_ret ?_
      have hres := ht.res (P := Try.prog) (w := w) (rs := [.tmp 2]) (vs := [.bool true]) (.tmp rfl .nil)
      obtain rfl := Option.some.inj H
      exact leave ht rfl hres ⟨rfl, ((hm.pick [] rfl (by decide)).pickφ [] rfl).post fun _ h => h⟩

end Go.Proofs.Ytbgniopmmankdaa.G
