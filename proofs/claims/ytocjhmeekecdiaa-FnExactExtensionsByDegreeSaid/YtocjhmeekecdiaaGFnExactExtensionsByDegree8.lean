/- What each Go function computes, as a Lean function, and the proof that it does: written by a program of this session (wip/gen), part 8. -/
import Derived.Test.YtocjhmeekecdiaaGFnExactExtensionsByDegree7
namespace Go.Proofs.Ytocjhmeekecdiaa.G
open Go Go.RowKit Go.Proofs.Ytocjhmeekecdiaa.K
set_option linter.unusedVariables false
set_option linter.unusedSimpArgs false

/-! ### impl_Colouring_extensions__ExtensionsByDegree_1: function 76 ((*loop.example/g01362/impl.Colouring).extensions) -/
mutual
def impl_Colouring_extensions__ExtensionsByDegree_1.l0 : Nat → Col → List Int → List Int → Int → List Int → Int → Option (Bool × List Int)
  | 0, _, _, _, _, _, _ => none
  | q4 + 1, x, sizes, list, t1, ls0_1, xs0_2 => if xs0_2 < x.k then (impl_Colouring_extensions__ExtensionsByDegree_1.l1 q4 x sizes list t1 ls0_1 xs0_2 ([] : List Int) 0) else (some (true, ls0_1))
def impl_Colouring_extensions__ExtensionsByDegree_1.l1 : Nat → Col → List Int → List Int → Int → List Int → Int → List Int → Int → Option (Bool × List Int)
  | 0, _, _, _, _, _, _, _, _ => none
  | q7 + 1, x, sizes, list, t1, ls0_1, xs0_2, ls1_4, xs1_5 => if xs1_5 < (list.length : Int) then ((getI list xs1_5).bind fun t9 => if t9 = xs0_2 then ((impl_Colouring_joins.f x xs1_5 t1 xs0_2).bind fun t11 => if t11 = true then ((push ls1_4 xs1_5).bind fun l17 => impl_Colouring_extensions__ExtensionsByDegree_1.l1 q7 x sizes list t1 ls0_1 xs0_2 l17 (w64 (xs1_5 + 1))) else (impl_Colouring_extensions__ExtensionsByDegree_1.l1 q7 x sizes list t1 ls0_1 xs0_2 ls1_4 (w64 (xs1_5 + 1)))) else (impl_Colouring_extensions__ExtensionsByDegree_1.l1 q7 x sizes list t1 ls0_1 xs0_2 ls1_4 (w64 (xs1_5 + 1)))) else ((getI sizes xs0_2).bind fun t18 => (impl_Colouring_hasClique.f q7 x xs0_2 (w64 (t18 - 2)) ls1_4).bind fun t19 => if t19 = true then (impl_Colouring_extensions__ExtensionsByDegree_1.l0 q7 x sizes list t1 ls0_1 (w64 (xs0_2 + 1))) else ((guardO (list.length < 17)).bind fun _ => (push list xs0_2).bind fun l26 => (impl_Colouring_extensions__ExtensionsByDegree_1.f q7 x sizes l26 ls0_1).bind fun t27 => if t27.1 = true then (impl_Colouring_extensions__ExtensionsByDegree_1.l0 q7 x sizes list t1 t27.2 (w64 (xs0_2 + 1))) else (some (false, t27.2))))
def impl_Colouring_extensions__ExtensionsByDegree_1.f : Nat → Col → List Int → List Int → List Int → Option (Bool × List Int)
  | 0, _, _, _, _ => none
  | k + 1, x, sizes, list, with_ => (impl_size_int64.f list).bind fun t1 => if t1 = x.p then ((impl_ExtensionsByDegree_1.f k list with_).bind fun t3 => some (t3.1, t3.2)) else (impl_Colouring_extensions__ExtensionsByDegree_1.l0 k x sizes list t1 with_ 0)
end
set_option maxRecDepth 100000 in
set_option maxHeartbeats 1000000 in
theorem impl_Colouring_extensions__ExtensionsByDegree_1.calls (k : Nat) (X : List Nat) (w0 : World) (b : Nat) (A : Option Addr) (c : Nat) (m : Nat) (A2 : Option Addr) (m2 : Nat) (b2 : Nat) (A3 : Option Addr) (c2 : Nat) (m3 : Nat) (x : Col) (sizes : List Int) (list : List Int) (with_ : List Int) (r : Bool × List Int)
    (hp : Pre X w0 [.blk b 28 (Col.cells x), .vec A2 17 2 1 m2 (ints list), .blk b2 25 [.slice A3 m3 c2], .vec A3 c2 2 1 m3 (ints with_)] [IntsAt A c m sizes]) (H : impl_Colouring_extensions__ExtensionsByDegree_1.f k x sizes list with_ = some r) :
    Calls Try.prog 76 [.pointer (some ⟨b, 0, none⟩), .slice A m c, .slice A2 m2 17, .func (.func 56) [].toArray [.pointer (some ⟨b2, 0, none⟩)].toArray].toArray w0 (Ret fun v w => v = .bool r.1 ∧ Post X (fps [.blk b 28 (Col.cells x), .vec A2 17 2 1 m2 (ints list), .blk b2 25 [.slice A3 m3 c2], .vec A3 c2 2 1 m3 (ints with_)]) w0 [.blk b 28 (Col.cells x), .vec A2 17 2 1 m2 (ints list), .blk b2 25 [.slice A3 m3 c2], .vec A3 c2 2 1 m3 (ints r.2)] [] w) := by
  induction k using Nat.strongRecOn generalizing X w0 b A c m A2 m2 b2 A3 c2 m3 x sizes list with_ r with
  | _ k ih =>
  cases k with
  | zero => cases H
  | succ k =>
  rw [impl_Colouring_extensions__ExtensionsByDegree_1.f] at H
  refine enterM (n := 77) hp Try.func76 rfl rfl (Nat.le_of_ble_eq_true rfl) fun a w ht hm => ?_
  induction k using Nat.strongRecOn with
  | _ k ih =>
  refine wp_seq ?_
  refine wpr ?_
  refine wpl rfl rfl ht (ev_assign ht rfl rfl) ?_
  intro a ht
  refine wpList_nil ?_
  refine then_normal ?_
  refine wp_seq ?_
  refine wpr ?_
  refine wpl rfl rfl ht (ev_move ht rfl rfl) ?_
  intro a ht
  obtain ⟨t1, et1, H⟩ := bind_get H
  have hcall := impl_size_int64.calls _ _ A2 17 m2 list _ ((fun (hq : Ms _ _ _ ([] ++ [.blk b 28 (Col.cells x), .vec A2 17 2 1 m2 (ints list), .blk b2 25 [.slice A3 m3 c2], .vec A3 c2 2 1 m3 (ints with_)]) _ _) => hq.lend (φp := [IntsAt A2 17 m2 list]) (allRO_cons (hq.lendVec 1 rfl) (allRO_nil))) (hm.pick (own' := [] ++ [.blk b 28 (Col.cells x), .vec A2 17 2 1 m2 (ints list), .blk b2 25 [.slice A3 m3 c2], .vec A3 c2 2 1 m3 (ints with_)]) [0, 1, 2, 3] rfl (by decide))) et1
  refine wpl_call _ rfl rfl ht rfl rfl rfl rfl can_64 hcall ?_
  clear hcall
  rintro _ w ⟨rfl, hpost⟩ a ht
  replace hm := (hm.pick (own' := [] ++ [.blk b 28 (Col.cells x), .vec A2 17 2 1 m2 (ints list), .blk b2 25 [.slice A3 m3 c2], .vec A3 c2 2 1 m3 (ints with_)]) [0, 1, 2, 3] rfl (by decide)).backL hpost
  clear hpost
  refine wpl rfl rfl ht (ev_assign ht rfl rfl) ?_
  intro a ht
  refine wpList_nil ?_
  refine then_normal ?_
  refine wp_seq ?_
  refine wp_seq ?_
  refine wpr ?_
  refine wpl rfl rfl ht (ev_move ht rfl rfl) ?_
  intro a ht
  refine wpl rfl rfl ht (ev_move ht rfl rfl) ?_
  intro a ht
  refine wpl rfl rfl ht (ev_nilCheck ht rfl rfl) ?_
  intro a ht
  refine wpl rfl rfl ht (ev_fieldAddr ht rfl rfl fo_28_0) ?_
  intro a ht
  refine wpl rfl rfl ht (ev_load ht rfl rfl sc_2 (hm.blk_cell 0 rfl rfl)) ?_
  intro a ht
  refine wpl rfl rfl ht (ev_cmp ht rfl rfl rfl rfl) ?_
  intro a ht
  refine wpList_nil ?_
  refine then_normal ?_
  by_cases h2 : t1 = x.p
  · replace H := ite_yes h2 H
    refine wpc_yes ht rfl (decide_eq_true h2) ?_
    refine wp_seq ?_
    refine wpr ?_
    refine wpl rfl rfl ht (ev_move ht rfl rfl) ?_
    intro a ht
    refine wpl rfl rfl ht (ev_move ht rfl rfl) ?_
    intro a ht
    obtain ⟨t3, et3, H⟩ := bind_get H
    have hcall := impl_ExtensionsByDegree_1.calls k _ _ A2 17 m2 b2 A3 c2 m3 list with_ _ ((fun (hq : Ms _ _ _ ([.blk b2 25 [.slice A3 m3 c2], .vec A3 c2 2 1 m3 (ints with_)] ++ [.blk b 28 (Col.cells x), .vec A2 17 2 1 m2 (ints list)]) _ _) => hq.lend (φp := [IntsAt A2 17 m2 list]) (allRO_cons (hq.lendVec 1 rfl) (allRO_nil))) (hm.pick (own' := [.blk b2 25 [.slice A3 m3 c2], .vec A3 c2 2 1 m3 (ints with_)] ++ [.blk b 28 (Col.cells x), .vec A2 17 2 1 m2 (ints list)]) [2, 3, 0, 1] rfl (by decide))) et3
    refine wpl_call _ rfl rfl ht rfl rfl rfl rfl can_56 hcall ?_
    clear hcall
    rintro _ w ⟨rfl, hpost⟩ a ht
    replace hm := (hm.pick (own' := [.blk b2 25 [.slice A3 m3 c2], .vec A3 c2 2 1 m3 (ints with_)] ++ [.blk b 28 (Col.cells x), .vec A2 17 2 1 m2 (ints list)]) [2, 3, 0, 1] rfl (by decide)).backL hpost
    clear hpost
    refine wpl rfl rfl ht (ev_assign ht rfl rfl) ?_
    intro a ht
    refine wpList_nil ?_
    refine then_normal ?_
    refine wp_ret ?_
    refine then_ret ?_
    have hres := ht.res (P := Try.prog) (w := w) (rs := [.tmp 8]) (vs := [.bool t3.1]) (.tmp rfl .nil)
    obtain rfl := Option.some.inj H
    exact leave ht rfl hres ⟨rfl, ((hm.pick [2, 3, 0, 1] rfl (by decide)).pickφ [] rfl).post fun _ h => h⟩
  · replace H := ite_no h2 H
    refine wpc_no ht rfl (decide_eq_false h2) ?_
    refine wp_skip ?_
    refine then_normal ?_
    refine wp_seq ?_
    refine wp_seq ?_
    refine wpr ?_
    refine wpl rfl rfl ht (ev_move ht rfl rfl) ?_
    intro a ht
    refine wpl rfl rfl ht (ev_nilCheck ht rfl rfl) ?_
    intro a ht
    refine wpl rfl rfl ht (ev_fieldAddr ht rfl rfl fo_28_1) ?_
    intro a ht
    refine wpl rfl rfl ht (ev_load ht rfl rfl sc_2 (hm.blk_cell 0 rfl rfl)) ?_
    intro a ht
    refine wpl rfl rfl ht (ev_move ht rfl rfl) ?_
    intro a ht
    refine wpList_nil ?_
    refine then_normal ?_
    refine wp_block ?_
    refine wpLoop (fun q a w => ∃ (ls0_1 : List Int) (xs0_2 : Int), impl_Colouring_extensions__ExtensionsByDegree_1.l0 q x sizes list t1 ls0_1 xs0_2 = some r ∧ q ≤ k ∧ Tm 77 [(0, .pointer (some ⟨b, 0, none⟩)), (1, .slice A m c), (2, .slice A2 m2 17), (3, .func (.func 56) [].toArray [.pointer (some ⟨b2, 0, none⟩)].toArray), (8, .bool false), (9, .int .i64 t1), (28, .int .i64 x.k), (29, .int .i64 xs0_2)] a ∧ Ms X (fps [.blk b 28 (Col.cells x), .vec A2 17 2 1 m2 (ints list), .blk b2 25 [.slice A3 m3 c2], .vec A3 c2 2 1 m3 (ints with_)]) w0 [.blk b 28 (Col.cells x), .vec A2 17 2 1 m2 (ints list), .blk b2 25 [.slice A3 m3 c2], .vec A3 c2 2 1 m3 (ints ls0_1)] [IntsAt A c m sizes] w) (k0 := k) ⟨with_, 0, H, Nat.le_refl _, ht.sub ⟨rfl, rfl, rfl, rfl, rfl, rfl, rfl, rfl, trivial⟩, (hm.pick [0, 1, 2, 3] rfl (by decide)).pickφ [0] rfl⟩ ?_
    clear H ht hm
    intro q4 a w hJ
    obtain ⟨ls0_1, xs0_2, H, hqq4, ht, hm⟩ := hJ
    cases q4 with
    | zero => cases H
    | succ q4 =>
    rw [impl_Colouring_extensions__ExtensionsByDegree_1.l0] at H
    refine wp_seq ?_
    refine wpr ?_
    refine wpl rfl rfl ht (ev_cmp ht rfl rfl rfl rfl) ?_
    intro a ht
    refine wpList_nil ?_
    refine then_normal ?_
    refine wp_seq ?_
    by_cases h5 : xs0_2 < x.k
    · replace H := ite_yes h5 H
      refine wpc_yes ht rfl (decide_eq_true h5) ?_
      refine wp_skip ?_
      refine then_normal ?_
      refine wp_seq ?_
      refine wp_block ?_
      refine wp_seq ?_
      refine wpr ?_
      refine wpl rfl rfl ht (ev_move ht rfl rfl) ?_
      intro a ht
      refine wpl rfl rfl ht (ev_assign ht rfl rfl) ?_
      intro a ht
      refine wpList_nil ?_
      refine then_normal ?_
      refine wp_seq ?_
      refine wpr ?_
      refine wpl_build_ints (l := ([] : List Int)) rfl rfl ht hm rfl und_25 zo_2 sz1_2 (by decide) rfl rfl rfl ?_
      intro A6 a ht w hm
      refine wpl rfl rfl ht (ev_assign ht rfl rfl) ?_
      intro a ht
      refine wpList_nil ?_
      refine then_normal ?_
      refine wp_seq ?_
      refine wp_seq ?_
      refine wpr ?_
      refine wpl rfl rfl ht (ev_move ht rfl rfl) ?_
      intro a ht
      refine wpl rfl rfl ht (ev_len_of ht rfl rfl und_25 (hm.vec_row 2 rfl)) ?_
      intro a ht
      refine wpl rfl rfl ht (ev_move ht rfl rfl) ?_
      intro a ht
      refine wpList_nil ?_
      refine then_normal ?_
      refine wp_block ?_
      refine wpLoop (fun q a w => ∃ (ls1_4 : List Int) (xs1_5 : Int) (As1_1 : Option Addr) (cs1_2 : Nat) (ms1_3 : Nat), impl_Colouring_extensions__ExtensionsByDegree_1.l1 q x sizes list t1 ls0_1 xs0_2 ls1_4 xs1_5 = some r ∧ q ≤ q4 ∧ Tm 77 [(0, .pointer (some ⟨b, 0, none⟩)), (1, .slice A m c), (2, .slice A2 m2 17), (3, .func (.func 56) [].toArray [.pointer (some ⟨b2, 0, none⟩)].toArray), (8, .bool false), (9, .int .i64 t1), (10, .int .i64 xs0_2), (11, .slice As1_1 ms1_3 cs1_2), (28, .int .i64 x.k), (29, .int .i64 xs0_2), (30, .bool (decide (xs0_2 < x.k))), (31, .int .i64 xs0_2), (33, .slice A2 m2 17), (34, .int .i64 (list.length : Int)), (35, .int .i64 xs1_5)] a ∧ Ms X (fps [.blk b 28 (Col.cells x), .vec A2 17 2 1 m2 (ints list), .blk b2 25 [.slice A3 m3 c2], .vec A3 c2 2 1 m3 (ints with_)]) w0 [.vec As1_1 cs1_2 2 1 ms1_3 (ints ls1_4), .blk b 28 (Col.cells x), .vec A2 17 2 1 m2 (ints list), .blk b2 25 [.slice A3 m3 c2], .vec A3 c2 2 1 m3 (ints ls0_1)] [IntsAt A c m sizes] w) (k0 := q4) ⟨([] : List Int), 0, A6, 0, 0, H, Nat.le_refl _, ht.sub ⟨rfl, rfl, rfl, rfl, rfl, rfl, rfl, rfl, rfl, rfl, rfl, rfl, rfl, rfl, rfl, trivial⟩, (hm.pick [0, 1, 2, 3, 4] rfl (by decide)).pickφ [0] rfl⟩ ?_
      clear H ht hm
      intro q7 a w hJ
      obtain ⟨ls1_4, xs1_5, As1_1, cs1_2, ms1_3, H, hqq7, ht, hm⟩ := hJ
      cases q7 with
      | zero => cases H
      | succ q7 =>
      rw [impl_Colouring_extensions__ExtensionsByDegree_1.l1] at H
      refine wp_seq ?_
      refine wpr ?_
      refine wpl rfl rfl ht (ev_cmp ht rfl rfl rfl rfl) ?_
      intro a ht
      refine wpList_nil ?_
      refine then_normal ?_
      refine wp_seq ?_
      by_cases h8 : xs1_5 < (list.length : Int)
      · replace H := ite_yes h8 H
        refine wpc_yes ht rfl (decide_eq_true h8) ?_
        refine wp_skip ?_
        refine then_normal ?_
        refine wp_seq ?_
        refine wp_block ?_
        refine wp_seq ?_
        refine wpr ?_
        refine wpl rfl rfl ht (ev_move ht rfl rfl) ?_
        intro a ht
        obtain ⟨t9, et9, H⟩ := bind_get H
        refine wpl rfl rfl ht (ev_index_ints ht rfl rfl rfl so_25 (hm.vec_row 2 rfl) et9) ?_
        intro a ht
        refine wpl rfl rfl ht (ev_load ht rfl rfl sc_2 (RowAt.cell (hm.vec_row 2 rfl) (ints_get et9) rfl)) ?_
        intro a ht
        refine wpl rfl rfl ht (ev_assign ht rfl rfl) ?_
        intro a ht
        refine wpl rfl rfl ht (ev_assign ht rfl rfl) ?_
        intro a ht
        refine wpList_nil ?_
        refine then_normal ?_
        refine wp_seq ?_
        refine wpr ?_
        refine wpl rfl rfl ht (ev_move ht rfl rfl) ?_
        intro a ht
        refine wpl rfl rfl ht (ev_move ht rfl rfl) ?_
        intro a ht
        refine wpl rfl rfl ht (ev_cmp ht rfl rfl rfl rfl) ?_
        intro a ht
        refine wpl rfl rfl ht (ev_move ht rfl rfl) ?_
        intro a ht
        by_cases h10 : t9 = xs0_2
        · replace H := ite_yes h10 H
          refine wpl_yes rfl ht rfl ((decide_eq_true h10)) ?_
          refine wpl rfl rfl ht (ev_move ht rfl rfl) ?_
          intro a ht
          refine wpl_yes rfl ht rfl ((decide_eq_true h10)) ?_
          refine wpl rfl rfl ht (ev_move ht rfl rfl) ?_
          intro a ht
          refine wpl_yes rfl ht rfl ((decide_eq_true h10)) ?_
          refine wpl rfl rfl ht (ev_move ht rfl rfl) ?_
          intro a ht
          refine wpl_yes rfl ht rfl ((decide_eq_true h10)) ?_
          refine wpl rfl rfl ht (ev_move ht rfl rfl) ?_
          intro a ht
          refine wpl_yes rfl ht rfl ((decide_eq_true h10)) ?_
          obtain ⟨t11, et11, H⟩ := bind_get H
          have hcall := impl_Colouring_joins.calls _ _ b x xs1_5 t1 xs0_2 _ ((fun (hq : Ms _ _ _ ([.blk b 28 (Col.cells x)] ++ [.vec As1_1 cs1_2 2 1 ms1_3 (ints ls1_4), .vec A2 17 2 1 m2 (ints list), .blk b2 25 [.slice A3 m3 c2], .vec A3 c2 2 1 m3 (ints ls0_1)]) _ _) => hq.lend (φp := []) (allRO_nil)) (hm.pick (own' := [.blk b 28 (Col.cells x)] ++ [.vec As1_1 cs1_2 2 1 ms1_3 (ints ls1_4), .vec A2 17 2 1 m2 (ints list), .blk b2 25 [.slice A3 m3 c2], .vec A3 c2 2 1 m3 (ints ls0_1)]) [1, 0, 2, 3, 4] rfl (by decide))) et11
          refine wpl_call _ rfl rfl ht rfl rfl rfl rfl can_50 hcall ?_
          clear hcall
          rintro _ w ⟨rfl, hpost⟩ a ht
          replace hm := (hm.pick (own' := [.blk b 28 (Col.cells x)] ++ [.vec As1_1 cs1_2 2 1 ms1_3 (ints ls1_4), .vec A2 17 2 1 m2 (ints list), .blk b2 25 [.slice A3 m3 c2], .vec A3 c2 2 1 m3 (ints ls0_1)]) [1, 0, 2, 3, 4] rfl (by decide)).backL hpost
          clear hpost
          refine wpl rfl rfl ht (ev_pick_yes ht rfl rfl (decide_eq_true h10) rfl) ?_
          intro a ht
          refine wpList_nil ?_
          refine then_normal ?_
          by_cases h12 : t11 = true
          · replace H := ite_yes h12 H
            refine wpc_yes ht rfl h12 ?_
            refine wpr ?_
            refine wpl rfl rfl ht (ev_move ht rfl rfl) ?_
            intro a ht
            refine wpl rfl rfl ht (ev_move ht rfl rfl) ?_
            intro a ht
            refine wpl_build_ints (l := [xs1_5]) rfl rfl ht hm rfl und_25 zo_2 sz1_2 (by decide) rfl rfl rfl ?_
            intro A13 a ht w hm
            obtain ⟨l17, el17, H⟩ := bind_get H
            refine wpl_push (r := l17) 2 0 rfl rfl ht hm rfl ap_25 rfl rfl rfl rfl el17 ?_
            intro A14 c15 m16 a ht w hm
            refine wpl rfl rfl ht (ev_assign ht rfl rfl) ?_
            intro a ht
            refine wpList_nil ?_
            refine blk_normal ?_
            refine then_normal ?_
            refine wpr ?_
            refine wpl rfl rfl ht (ev_arith ht rfl rfl rfl rfl) ?_
            intro a ht
            refine wpl rfl rfl ht (ev_move ht rfl rfl) ?_
            intro a ht
            refine wpList_nil ?_
            exact then_normal ⟨q7, by omega, l17, (w64 (xs1_5 + 1)), A14, c15, m16, H, by omega, ht.sub ⟨rfl, rfl, rfl, rfl, rfl, rfl, rfl, rfl, rfl, rfl, rfl, rfl, rfl, rfl, rfl, trivial⟩, (hm.pick [2, 1, 3, 4, 5] rfl (by decide)).pickφ [0] rfl⟩
          · replace H := ite_no h12 H
            refine wpc_no ht rfl (Bool.eq_false_iff.mpr h12) ?_
            refine wp_skip ?_
            refine blk_normal ?_
            refine then_normal ?_
            refine wpr ?_
            refine wpl rfl rfl ht (ev_arith ht rfl rfl rfl rfl) ?_
            intro a ht
            refine wpl rfl rfl ht (ev_move ht rfl rfl) ?_
            intro a ht
            refine wpList_nil ?_
            exact then_normal ⟨q7, by omega, ls1_4, (w64 (xs1_5 + 1)), As1_1, cs1_2, ms1_3, H, by omega, ht.sub ⟨rfl, rfl, rfl, rfl, rfl, rfl, rfl, rfl, rfl, rfl, rfl, rfl, rfl, rfl, rfl, trivial⟩, (hm.pick [1, 0, 2, 3, 4] rfl (by decide)).pickφ [0] rfl⟩
        · replace H := ite_no h10 H
          refine wpl_no rfl rfl ht rfl (by rw [(decide_eq_false h10)]; decide) ?_
          intro a ht
          refine wpl_no rfl rfl ht rfl (by rw [(decide_eq_false h10)]; decide) ?_
          intro a ht
          refine wpl_no rfl rfl ht rfl (by rw [(decide_eq_false h10)]; decide) ?_
          intro a ht
          refine wpl_no rfl rfl ht rfl (by rw [(decide_eq_false h10)]; decide) ?_
          intro a ht
          refine wpl_no rfl rfl ht rfl (by rw [(decide_eq_false h10)]; decide) ?_
          intro a ht
          refine wpl rfl rfl ht (ev_pick_no ht rfl rfl (decide_eq_false h10) rfl) ?_
          intro a ht
          refine wpList_nil ?_
          refine then_normal ?_
          refine wpc_no ht rfl rfl ?_
          refine wp_skip ?_
          refine blk_normal ?_
          refine then_normal ?_
          refine wpr ?_
          refine wpl rfl rfl ht (ev_arith ht rfl rfl rfl rfl) ?_
          intro a ht
          refine wpl rfl rfl ht (ev_move ht rfl rfl) ?_
          intro a ht
          refine wpList_nil ?_
          exact then_normal ⟨q7, by omega, ls1_4, (w64 (xs1_5 + 1)), As1_1, cs1_2, ms1_3, H, by omega, ht.sub ⟨rfl, rfl, rfl, rfl, rfl, rfl, rfl, rfl, rfl, rfl, rfl, rfl, rfl, rfl, rfl, trivial⟩, (hm.pick [0, 1, 2, 3, 4] rfl (by decide)).pickφ [0] rfl⟩
      · replace H := ite_no h8 H
        refine wpc_no ht rfl (decide_eq_false h8) ?_
        refine wp_exit ?_
        refine then_exit ?_
        refine then_exit ?_
        refine blk_hit ?_
        refine then_normal ?_
        refine wp_seq ?_
        refine wpr ?_
        refine wpl rfl rfl ht (ev_move ht rfl rfl) ?_
        intro a ht
        refine wpl rfl rfl ht (ev_move ht rfl rfl) ?_
        intro a ht
        refine wpl rfl rfl ht (ev_move ht rfl rfl) ?_
        intro a ht
        refine wpl rfl rfl ht (ev_move ht rfl rfl) ?_
        intro a ht
        obtain ⟨t18, et18, H⟩ := bind_get H
        refine wpl rfl rfl ht (ev_index_ints ht rfl rfl rfl so_25 (hm.fact (φ := IntsAt A c m sizes) 0 rfl) et18) ?_
        intro a ht
        refine wpl rfl rfl ht (ev_load ht rfl rfl sc_2 (RowAt.cell (hm.fact (φ := IntsAt A c m sizes) 0 rfl) (ints_get et18) rfl)) ?_
        intro a ht
        refine wpl rfl rfl ht (ev_arith ht rfl rfl rfl rfl) ?_
        intro a ht
        refine wpl rfl rfl ht (ev_move ht rfl rfl) ?_
        intro a ht
        obtain ⟨t19, et19, H⟩ := bind_get H
        have hcall := impl_Colouring_hasClique.calls q7 _ _ b As1_1 cs1_2 ms1_3 x xs0_2 (w64 (t18 - 2)) ls1_4 _ ((fun (hq : Ms _ _ _ ([.blk b 28 (Col.cells x)] ++ [.vec As1_1 cs1_2 2 1 ms1_3 (ints ls1_4), .vec A2 17 2 1 m2 (ints list), .blk b2 25 [.slice A3 m3 c2], .vec A3 c2 2 1 m3 (ints ls0_1)]) _ _) => hq.lend (φp := [IntsAt As1_1 cs1_2 ms1_3 ls1_4]) (allRO_cons (hq.lendVec 0 rfl) (allRO_nil))) (hm.pick (own' := [.blk b 28 (Col.cells x)] ++ [.vec As1_1 cs1_2 2 1 ms1_3 (ints ls1_4), .vec A2 17 2 1 m2 (ints list), .blk b2 25 [.slice A3 m3 c2], .vec A3 c2 2 1 m3 (ints ls0_1)]) [1, 0, 2, 3, 4] rfl (by decide))) et19
        refine wpl_call _ rfl rfl ht rfl rfl rfl rfl can_52 hcall ?_
        clear hcall
        rintro _ w ⟨rfl, hpost⟩ a ht
        replace hm := (hm.pick (own' := [.blk b 28 (Col.cells x)] ++ [.vec As1_1 cs1_2 2 1 ms1_3 (ints ls1_4), .vec A2 17 2 1 m2 (ints list), .blk b2 25 [.slice A3 m3 c2], .vec A3 c2 2 1 m3 (ints ls0_1)]) [1, 0, 2, 3, 4] rfl (by decide)).backL hpost
        clear hpost
        refine wpl rfl rfl ht (ev_not ht rfl rfl) ?_
        intro a ht
        refine wpl rfl rfl ht (ev_move ht rfl rfl) ?_
        intro a ht
        by_cases h20 : t19 = true
        · replace H := ite_yes h20 H
          refine wpl_no rfl rfl ht rfl (by rw [(not_t h20)]; decide) ?_
          intro a ht
          refine wpl_no rfl rfl ht rfl (by rw [(not_t h20)]; decide) ?_
          intro a ht
          refine wpl_no rfl rfl ht rfl (by rw [(not_t h20)]; decide) ?_
          intro a ht
          refine wpl_no rfl rfl ht rfl (by rw [(not_t h20)]; decide) ?_
          intro a ht
          refine wpl_no rfl rfl ht rfl (by rw [(not_t h20)]; decide) ?_
          intro a ht
          refine wpl_no rfl rfl ht rfl (by rw [(not_t h20)]; decide) ?_
          intro a ht
          refine wpl_no rfl rfl ht rfl (by rw [(not_t h20)]; decide) ?_
          intro a ht
          refine wpl_no rfl rfl ht rfl (by rw [(not_t h20)]; decide) ?_
          intro a ht
          refine wpl_no rfl rfl ht rfl (by rw [(not_t h20)]; decide) ?_
          intro a ht
          refine wpl rfl rfl ht (ev_pick_no ht rfl rfl (not_t h20) rfl) ?_
          intro a ht
          refine wpList_nil ?_
          refine then_normal ?_
          refine wpc_no ht rfl rfl ?_
          refine wp_skip ?_
          refine blk_normal ?_
          refine then_normal ?_
          refine wpr ?_
          refine wpl rfl rfl ht (ev_arith ht rfl rfl rfl rfl) ?_
          intro a ht
          refine wpl rfl rfl ht (ev_move ht rfl rfl) ?_
          intro a ht
          refine wpList_nil ?_
          exact then_normal ⟨q7, by omega, ls0_1, (w64 (xs0_2 + 1)), H, by omega, ht.sub ⟨rfl, rfl, rfl, rfl, rfl, rfl, rfl, rfl, trivial⟩, (hm.pick [0, 2, 3, 4] rfl (by decide)).pickφ [0] rfl⟩
        · replace H := ite_no h20 H
          refine wpl_yes rfl ht rfl ((not_f (Bool.eq_false_iff.mpr h20))) ?_
          refine wpl rfl rfl ht (ev_move ht rfl rfl) ?_
          intro a ht
          refine wpl_yes rfl ht rfl ((not_f (Bool.eq_false_iff.mpr h20))) ?_
          refine wpl rfl rfl ht (ev_move ht rfl rfl) ?_
          intro a ht
          refine wpl_yes rfl ht rfl ((not_f (Bool.eq_false_iff.mpr h20))) ?_
          refine wpl rfl rfl ht (ev_move ht rfl rfl) ?_
          intro a ht
          refine wpl_yes rfl ht rfl ((not_f (Bool.eq_false_iff.mpr h20))) ?_
          refine wpl rfl rfl ht (ev_move ht rfl rfl) ?_
          intro a ht
          refine wpl_yes rfl ht rfl ((not_f (Bool.eq_false_iff.mpr h20))) ?_
          refine wpl_build_ints (l := [xs0_2]) rfl rfl ht hm rfl und_25 zo_2 sz1_2 (by decide) rfl rfl rfl ?_
          intro A21 a ht w hm
          refine wpl_yes rfl ht rfl ((not_f (Bool.eq_false_iff.mpr h20))) ?_
          obtain ⟨u25, eu25, H⟩ := bind_get H
          obtain ⟨l26, el26, H⟩ := bind_get H
          refine wpl_push_in (r := l26) 3 0 rfl rfl ht hm rfl ap_25 rfl rfl rfl rfl (guardO_get eu25) el26 ?_
          intro a ht w hm
          refine wpl_yes rfl ht rfl ((not_f (Bool.eq_false_iff.mpr h20))) ?_
          refine wpl rfl rfl ht (ev_move ht rfl rfl) ?_
          intro a ht
          refine wpl_yes rfl ht rfl ((not_f (Bool.eq_false_iff.mpr h20))) ?_
          obtain ⟨t27, et27, H⟩ := bind_get H
          have hcall := ih q7 (by omega) _ _ b A c m A2 (m2 + 1) b2 A3 c2 m3 x sizes l26 ls0_1 _ ((fun (hq : Ms _ _ _ ([.blk b 28 (Col.cells x), .vec A2 17 2 1 (m2 + 1) (ints l26), .blk b2 25 [.slice A3 m3 c2], .vec A3 c2 2 1 m3 (ints ls0_1)] ++ [.vec A21 1 2 1 1 (ints ([xs0_2])), .vec As1_1 cs1_2 2 1 ms1_3 (ints ls1_4)]) _ _) => hq.lend (φp := [IntsAt A c m sizes]) (allRO_cons (hq.lendFact 0 rfl) (allRO_nil))) (hm.pick (own' := [.blk b 28 (Col.cells x), .vec A2 17 2 1 (m2 + 1) (ints l26), .blk b2 25 [.slice A3 m3 c2], .vec A3 c2 2 1 m3 (ints ls0_1)] ++ [.vec A21 1 2 1 1 (ints ([xs0_2])), .vec As1_1 cs1_2 2 1 ms1_3 (ints ls1_4)]) [1, 3, 4, 5, 0, 2] rfl (by decide))) et27
          refine wpl_call _ rfl rfl ht rfl rfl rfl rfl can_76 hcall ?_
          clear hcall
          rintro _ w ⟨rfl, hpost⟩ a ht
          replace hm := (hm.pick (own' := [.blk b 28 (Col.cells x), .vec A2 17 2 1 (m2 + 1) (ints l26), .blk b2 25 [.slice A3 m3 c2], .vec A3 c2 2 1 m3 (ints ls0_1)] ++ [.vec A21 1 2 1 1 (ints ([xs0_2])), .vec As1_1 cs1_2 2 1 ms1_3 (ints ls1_4)]) [1, 3, 4, 5, 0, 2] rfl (by decide)).backL hpost
          clear hpost
          replace hm := hm.unpush (l := list) (m := m2) 1 rfl el26
          refine wpl_yes rfl ht rfl ((not_f (Bool.eq_false_iff.mpr h20))) ?_
          refine wpl rfl rfl ht (ev_not ht rfl rfl) ?_
          intro a ht
          refine wpl rfl rfl ht (ev_pick_yes ht rfl rfl (not_f (Bool.eq_false_iff.mpr h20)) rfl) ?_
          intro a ht
          refine wpList_nil ?_
          refine then_normal ?_
          by_cases h28 : t27.1 = true
          · replace H := ite_yes h28 H
            refine wpc_no ht rfl (not_t h28) ?_
            refine wp_skip ?_
            refine blk_normal ?_
            refine then_normal ?_
            refine wpr ?_
            refine wpl rfl rfl ht (ev_arith ht rfl rfl rfl rfl) ?_
            intro a ht
            refine wpl rfl rfl ht (ev_move ht rfl rfl) ?_
            intro a ht
            refine wpList_nil ?_
            exact then_normal ⟨q7, by omega, t27.2, (w64 (xs0_2 + 1)), H, by omega, ht.sub ⟨rfl, rfl, rfl, rfl, rfl, rfl, rfl, rfl, trivial⟩, (hm.pick [0, 1, 2, 3] rfl (by decide)).pickφ [0] rfl⟩
          · replace H := ite_no h28 H
            refine wpc_yes ht rfl (not_f (Bool.eq_false_iff.mpr h28)) ?_
            refine wp_seq ?_
            refine wpr ?_
            refine wpl rfl rfl ht (ev_assign ht rfl rfl) ?_
            intro a ht
            refine wpList_nil ?_
            refine then_normal ?_
            refine wp_ret ?_
            refine blk_ret ?_
            refine then_ret ?_
            refine then_ret ?_
            refine blk_ret ?_
            refine then_ret ?_
            have hres := ht.res (P := Try.prog) (w := w) (rs := [.tmp 8]) (vs := [.bool false]) (.tmp rfl .nil)
            obtain rfl := Option.some.inj H
            exact leave ht rfl hres ⟨rfl, ((hm.pick [0, 1, 2, 3] rfl (by decide)).pickφ [] rfl).post fun _ h => h⟩
    · replace H := ite_no h5 H
      refine wpc_no ht rfl (decide_eq_false h5) ?_
      refine wp_exit ?_
      refine then_exit ?_
      refine then_exit ?_
      refine blk_hit ?_
      refine then_normal ?_
      refine wp_seq ?_
      refine wpr ?_
      refine wpl rfl rfl ht (ev_assign ht rfl rfl) ?_
      intro a ht
      refine wpList_nil ?_
      refine then_normal ?_
      refine wp_ret ?_
      have hres := ht.res (P := Try.prog) (w := w) (rs := [.tmp 8]) (vs := [.bool true]) (.tmp rfl .nil)
      obtain rfl := Option.some.inj H
      exact leave ht rfl hres ⟨rfl, ((hm.pick [0, 1, 2, 3] rfl (by decide)).pickφ [] rfl).post fun _ h => h⟩

/-! ### impl_Colouring_extend__ExtensionsByDegree_1: function 55 ((*loop.example/g01362/impl.Colouring).extend) -/
def impl_Colouring_extend__ExtensionsByDegree_1.f (k : Nat) (x : Col) (sizes : List Int) (with_ : List Int) : Option (Bool × List Int) := (impl_Colouring_extensions__ExtensionsByDegree_1.f k x sizes ([] : List Int) with_).bind fun t2 => some (t2.1, t2.2)
set_option maxRecDepth 100000 in
set_option maxHeartbeats 1000000 in
theorem impl_Colouring_extend__ExtensionsByDegree_1.calls (k : Nat) (X : List Nat) (w0 : World) (b : Nat) (A : Option Addr) (c : Nat) (m : Nat) (b2 : Nat) (A2 : Option Addr) (c2 : Nat) (m2 : Nat) (x : Col) (sizes : List Int) (with_ : List Int) (r : Bool × List Int)
    (hp : Pre X w0 [.blk b 28 (Col.cells x), .blk b2 25 [.slice A2 m2 c2], .vec A2 c2 2 1 m2 (ints with_)] [IntsAt A c m sizes]) (H : impl_Colouring_extend__ExtensionsByDegree_1.f k x sizes with_ = some r) :
    Calls Try.prog 55 [.pointer (some ⟨b, 0, none⟩), .slice A m c, .func (.func 56) [].toArray [.pointer (some ⟨b2, 0, none⟩)].toArray].toArray w0 (Ret fun v w => v = .bool r.1 ∧ Post X (fps [.blk b 28 (Col.cells x), .blk b2 25 [.slice A2 m2 c2], .vec A2 c2 2 1 m2 (ints with_)]) w0 [.blk b 28 (Col.cells x), .blk b2 25 [.slice A2 m2 c2], .vec A2 c2 2 1 m2 (ints r.2)] [] w) := by
  unfold impl_Colouring_extend__ExtensionsByDegree_1.f at H
  refine enterM (n := 12) hp Try.func55 rfl rfl (Nat.le_of_ble_eq_true rfl) fun a w ht hm => ?_
  refine wp_seq ?_
  refine wpr ?_
  refine wpl rfl rfl ht (ev_assign ht rfl rfl) ?_
  intro a ht
  refine wpList_nil ?_
  refine then_normal ?_
  refine wp_seq ?_
  refine wpr ?_
  refine wpl rfl rfl ht (ev_move ht rfl rfl) ?_
  intro a ht
  refine wpl rfl rfl ht (ev_move ht rfl rfl) ?_
  intro a ht
  refine wpl_make_cap (c := 17) rfl rfl ht hm rfl und_25 zo_2 sz1_2 by_2 rfl rfl (by decide) ?_
  intro A1 a ht w hm
  refine wpl rfl rfl ht (ev_move ht rfl rfl) ?_
  intro a ht
  obtain ⟨t2, et2, H⟩ := bind_get H
  have hcall := impl_Colouring_extensions__ExtensionsByDegree_1.calls k _ _ b A c m A1 0 b2 A2 c2 m2 x sizes ([] : List Int) with_ _ ((fun (hq : Ms _ _ _ ([.blk b 28 (Col.cells x), .vec A1 17 2 1 0 (ints ([] : List Int)), .blk b2 25 [.slice A2 m2 c2], .vec A2 c2 2 1 m2 (ints with_)] ++ []) _ _) => hq.lend (φp := [IntsAt A c m sizes]) (allRO_cons (hq.lendFact 0 rfl) (allRO_nil))) (hm.pick (own' := [.blk b 28 (Col.cells x), .vec A1 17 2 1 0 (ints ([] : List Int)), .blk b2 25 [.slice A2 m2 c2], .vec A2 c2 2 1 m2 (ints with_)] ++ []) [1, 0, 2, 3] rfl (by decide))) et2
  refine wpl_call _ rfl rfl ht rfl rfl rfl rfl can_76 hcall ?_
  clear hcall
  rintro _ w ⟨rfl, hpost⟩ a ht
  replace hm := (hm.pick (own' := [.blk b 28 (Col.cells x), .vec A1 17 2 1 0 (ints ([] : List Int)), .blk b2 25 [.slice A2 m2 c2], .vec A2 c2 2 1 m2 (ints with_)] ++ []) [1, 0, 2, 3] rfl (by decide)).backL hpost
  clear hpost
  refine wpl rfl rfl ht (ev_assign ht rfl rfl) ?_
  intro a ht
  refine wpList_nil ?_
  refine then_normal ?_
  refine wp_ret ?_
  have hres := ht.res (P := Try.prog) (w := w) (rs := [.tmp 6]) (vs := [.bool t2.1]) (.tmp rfl .nil)
  obtain rfl := Option.some.inj H
  exact leave ht rfl hres ⟨rfl, ((hm.pick [0, 2, 3] rfl (by decide)).pickφ [] rfl).post fun _ h => h⟩

/-! ### impl_ExtensionsByDegree: function 28 (loop.example/g01362/impl.ExtensionsByDegree) -/
def impl_ExtensionsByDegree.f (k : Nat) (x : Col) (sizes : List Int) : Option (List Int × Int) := (impl_Colouring_extendingCode__always.f k x sizes 12).bind fun t2 => if t2 ≠ 0 then (some (([] : List Int), t2)) else ((guardO (0 ≤ (w64 (x.p + 1)) ∧ (w64 (x.p + 1)) ≤ 1073741824)).bind fun _ => (impl_Colouring_extend__ExtensionsByDegree_1.f k x sizes (List.replicate (w64 (x.p + 1)).toNat (0 : Int))).bind fun t10 => some (t10.2, 0))
set_option maxRecDepth 100000 in
set_option maxHeartbeats 1000000 in
theorem impl_ExtensionsByDegree.calls (k : Nat) (X : List Nat) (w0 : World) (A : Option Addr) (c : Nat) (m : Nat) (x : Col) (sizes : List Int) (r : List Int × Int)
    (hp : Pre X w0 [] [IntsAt A c m sizes]) (H : impl_ExtensionsByDegree.f k x sizes = some r) :
    Calls Try.prog 28 [.agg (Col.cells x).toArray, .slice A m c].toArray w0 (Ret fun v w => ∃ (A_0 : Option Addr) (c_0 : Nat) (n_0 : Nat), v = .tuple [.slice A_0 n_0 c_0, .int .i64 r.2].toArray ∧ Post X (fps []) w0 [.vec A_0 c_0 2 1 n_0 (ints r.1)] [] w) := by
  unfold impl_ExtensionsByDegree.f at H
  refine enterM (n := 21) hp Try.func28 rfl rfl (Nat.le_of_ble_eq_true rfl) fun a w ht hm => ?_
  refine wp_seq ?_
  refine wpr ?_
  refine wpl_box rfl rfl ht hm rfl rfl rfl ?_
  intro b1 a ht w hm
  refine wpl rfl rfl ht (ev_assign ht rfl rfl) ?_
  intro a ht
  refine wpl rfl rfl ht (ev_assign ht rfl rfl) ?_
  intro a ht
  refine wpList_nil ?_
  refine then_normal ?_
  refine wp_seq ?_
  refine wp_seq ?_
  refine wpr ?_
  refine wpl rfl rfl ht (ev_move ht rfl rfl) ?_
  intro a ht
  obtain ⟨t2, et2, H⟩ := bind_get H
  have hcall := impl_Colouring_extendingCode__always.calls k _ _ b1 A c m x sizes 12 _ ((fun (hq : Ms _ _ _ ([.blk b1 28 (Col.cells x)] ++ []) _ _) => hq.lend (φp := [IntsAt A c m sizes]) (allRO_cons (hq.lendFact 0 rfl) (allRO_nil))) (hm.pick (own' := [.blk b1 28 (Col.cells x)] ++ []) [0] rfl (by decide))) et2
  refine wpl_call _ rfl rfl ht rfl rfl rfl rfl can_32 hcall ?_
  clear hcall
  rintro _ w ⟨rfl, hpost⟩ a ht
  replace hm := (hm.pick (own' := [.blk b1 28 (Col.cells x)] ++ []) [0] rfl (by decide)).backL hpost
  clear hpost
  refine wpl rfl rfl ht (ev_assign ht rfl rfl) ?_
  intro a ht
  refine wpList_nil ?_
  refine then_normal ?_
  refine wp_seq ?_
  refine wpr ?_
  refine wpl rfl rfl ht (ev_move ht rfl rfl) ?_
  intro a ht
  refine wpl rfl rfl ht (ev_cmp ht rfl rfl rfl rfl) ?_
  intro a ht
  refine wpList_nil ?_
  refine then_normal ?_
  by_cases h3 : t2 ≠ 0
  · replace H := ite_yes h3 H
    refine wpc_yes ht rfl (decide_eq_true h3) ?_
    refine wp_seq ?_
    refine wpr ?_
    refine wpl rfl rfl ht (ev_move ht rfl rfl) ?_
    intro a ht
    refine wpl rfl rfl ht (ev_assign ht rfl rfl) ?_
    intro a ht
    refine wpl rfl rfl ht (ev_assign ht rfl rfl) ?_
    intro a ht
    refine wpList_nil ?_
    refine then_normal ?_
    refine wp_ret ?_
    refine then_ret ?_
    have hres := ht.res (P := Try.prog) (w := w) (rs := [.tmp 4, .tmp 5]) (vs := [.slice none 0 0, .int .i64 t2]) (.tmp rfl (.tmp rfl .nil))
    replace hm : Ms _ _ _ (.vec none 0 2 1 0 (ints ([] : List Int)) :: _) _ w := hm.nilVec none 2 1
    obtain rfl := Option.some.inj H
    exact leave ht rfl hres ⟨none, 0, 0, rfl, ((hm.pick [0] rfl (by decide)).pickφ [] rfl).post fun _ h => h⟩
  · replace H := ite_no h3 H
    refine wpc_no ht rfl (decide_eq_false h3) ?_
    refine wp_skip ?_
    refine then_normal ?_
    refine wp_seq ?_
    refine wpr ?_
    refine wpl rfl rfl ht (ev_fieldAddr ht rfl rfl fo_28_0) ?_
    intro a ht
    refine wpl rfl rfl ht (ev_load ht rfl rfl sc_2 (hm.blk_cell 0 rfl rfl)) ?_
    intro a ht
    refine wpl rfl rfl ht (ev_arith ht rfl rfl rfl rfl) ?_
    intro a ht
    obtain ⟨u6, eu6, H⟩ := bind_get H
    refine wpl_make_ints rfl rfl ht hm rfl und_25 zo_2 sz1_2 by_2 rfl rfl (guardO_get eu6) ?_
    intro A5 m7 c8 a ht w hm
    refine wpl_alloc rfl rfl ht hm rfl zo_25 ?_
    intro b9 a ht w hm
    refine wpl_store_blk 0 rfl rfl ht hm rfl rfl rfl sz1_25 rfl rfl rfl ?_
    intro a ht w hm
    refine wpList_nil ?_
    refine then_normal ?_
    refine wp_seq ?_
    refine wpr ?_
    refine wpl rfl rfl ht (ev_move ht rfl rfl) ?_
    intro a ht
    refine wpl rfl rfl ht (ev_makeFunc ht rfl rfl rfl) ?_
    intro a ht
    obtain ⟨t10, et10, H⟩ := bind_get H
    have hcall := impl_Colouring_extend__ExtensionsByDegree_1.calls k _ _ b1 A c m b9 A5 c8 m7 x sizes (List.replicate (w64 (x.p + 1)).toNat (0 : Int)) _ ((fun (hq : Ms _ _ _ ([.blk b1 28 (Col.cells x), .blk b9 25 [.slice A5 m7 c8], .vec A5 c8 2 1 m7 (ints (List.replicate (w64 (x.p + 1)).toNat (0 : Int)))] ++ []) _ _) => hq.lend (φp := [IntsAt A c m sizes]) (allRO_cons (hq.lendFact 0 rfl) (allRO_nil))) (hm.pick (own' := [.blk b1 28 (Col.cells x), .blk b9 25 [.slice A5 m7 c8], .vec A5 c8 2 1 m7 (ints (List.replicate (w64 (x.p + 1)).toNat (0 : Int)))] ++ []) [2, 0, 1] rfl (by decide))) et10
    refine wpl_call _ rfl rfl ht rfl rfl rfl rfl can_55 hcall ?_
    clear hcall
    rintro _ w ⟨rfl, hpost⟩ a ht
    replace hm := (hm.pick (own' := [.blk b1 28 (Col.cells x), .blk b9 25 [.slice A5 m7 c8], .vec A5 c8 2 1 m7 (ints (List.replicate (w64 (x.p + 1)).toNat (0 : Int)))] ++ []) [2, 0, 1] rfl (by decide)).backL hpost
    clear hpost
    refine wpList_nil ?_
    refine then_normal ?_
    refine wp_seq ?_
    refine wpr ?_
    refine wpl rfl rfl ht (ev_load ht rfl rfl sc_25 (hm.blk_cell 1 rfl rfl)) ?_
    intro a ht
    refine wpl rfl rfl ht (ev_assign ht rfl rfl) ?_
    intro a ht
    refine wpl rfl rfl ht (ev_assign ht rfl rfl) ?_
    intro a ht
    refine wpList_nil ?_
    refine then_normal ?_
    refine wp_ret ?_
    have hres := ht.res (P := Try.prog) (w := w) (rs := [.tmp 4, .tmp 5]) (vs := [.slice A5 m7 c8, .int .i64 0]) (.tmp rfl (.tmp rfl .nil))
    obtain rfl := Option.some.inj H
    exact leave ht rfl hres ⟨A5, c8, m7, rfl, ((hm.pick [2] rfl (by decide)).pickφ [] rfl).post fun _ h => h⟩

/-! ### laws_eqInt64S: function 13 (loop.example/g01362/laws.eqInt64S) -/
def laws_eqInt64S.l0 : Nat → List Int → List Int → Int → Option (Bool)
  | 0, _, _, _ => none
  | q2 + 1, a_, b, xs0_1 => if xs0_1 < (a_.length : Int) then ((getI a_ xs0_1).bind fun t4 => (getI b xs0_1).bind fun t5 => if t4 ≠ t5 then (some false) else (laws_eqInt64S.l0 q2 a_ b (w64 (xs0_1 + 1)))) else (some true)
def laws_eqInt64S.f (k : Nat) (a_ : List Int) (b : List Int) : Option (Bool) := if (a_.length : Int) ≠ (b.length : Int) then (some false) else (laws_eqInt64S.l0 k a_ b 0)
set_option maxRecDepth 100000 in
set_option maxHeartbeats 1000000 in
theorem laws_eqInt64S.calls (k : Nat) (X : List Nat) (w0 : World) (A : Option Addr) (c : Nat) (m : Nat) (A2 : Option Addr) (c2 : Nat) (m2 : Nat) (a_ : List Int) (b : List Int) (r : Bool)
    (hp : Pre X w0 [] [IntsAt A c m a_, IntsAt A2 c2 m2 b]) (H : laws_eqInt64S.f k a_ b = some r) :
    Calls Try.prog 13 [.slice A m c, .slice A2 m2 c2].toArray w0 (Ret fun v w => v = .bool r ∧ Post X (fps []) w0 [] [] w) := by
  unfold laws_eqInt64S.f at H
  refine enterM (n := 26) hp Try.func13 rfl rfl (Nat.le_of_ble_eq_true rfl) fun a w ht hm => ?_
  refine wp_seq ?_
  refine wpr ?_
  refine wpl rfl rfl ht (ev_assign ht rfl rfl) ?_
  intro a ht
  refine wpList_nil ?_
  refine then_normal ?_
  refine wp_seq ?_
  refine wp_seq ?_
  refine wpr ?_
  refine wpl rfl rfl ht (ev_move ht rfl rfl) ?_
  intro a ht
  refine wpl rfl rfl ht (ev_len_of ht rfl rfl und_25 (hm.fact (φ := IntsAt A c m a_) 0 rfl)) ?_
  intro a ht
  refine wpl rfl rfl ht (ev_move ht rfl rfl) ?_
  intro a ht
  refine wpl rfl rfl ht (ev_len_of ht rfl rfl und_25 (hm.fact (φ := IntsAt A2 c2 m2 b) 1 rfl)) ?_
  intro a ht
  refine wpl rfl rfl ht (ev_cmp ht rfl rfl rfl rfl) ?_
  intro a ht
  refine wpList_nil ?_
  refine then_normal ?_
  by_cases h1 : (a_.length : Int) ≠ (b.length : Int)
  · replace H := ite_yes h1 H
    refine wpc_yes ht rfl (decide_eq_true h1) ?_
    refine wp_seq ?_
    refine wpr ?_
    refine wpl rfl rfl ht (ev_assign ht rfl rfl) ?_
    intro a ht
    refine wpList_nil ?_
    refine then_normal ?_
    refine wp_ret ?_
    refine then_ret ?_
    have hres := ht.res (P := Try.prog) (w := w) (rs := [.tmp 4]) (vs := [.bool false]) (.tmp rfl .nil)
    obtain rfl := Option.some.inj H
    exact leave ht rfl hres ⟨rfl, ((hm.pick [] rfl (by decide)).pickφ [] rfl).post fun _ h => h⟩
  · replace H := ite_no h1 H
    refine wpc_no ht rfl (decide_eq_false h1) ?_
    refine wp_skip ?_
    refine then_normal ?_
    refine wp_seq ?_
    refine wp_seq ?_
    refine wpr ?_
    refine wpl rfl rfl ht (ev_assign ht rfl rfl) ?_
    intro a ht
    refine wpList_nil ?_
    refine then_normal ?_
    refine wp_block ?_
    refine wpLoop (fun q a w => ∃ (xs0_1 : Int), laws_eqInt64S.l0 q a_ b xs0_1 = some r ∧ q ≤ k ∧ Tm 26 [(0, .slice A m c), (1, .slice A2 m2 c2), (4, .bool false), (5, .int .i64 xs0_1)] a ∧ Ms X (fps []) w0 [] [IntsAt A c m a_, IntsAt A2 c2 m2 b] w) (k0 := k) ⟨0, H, Nat.le_refl _, ht.sub ⟨rfl, rfl, rfl, rfl, trivial⟩, (hm.pick [] rfl (by decide)).pickφ [0, 1] rfl⟩ ?_
    clear H ht hm
    intro q2 a w hJ
    obtain ⟨xs0_1, H, hqq2, ht, hm⟩ := hJ
    cases q2 with
    | zero => cases H
    | succ q2 =>
    rw [laws_eqInt64S.l0] at H
    refine wp_seq ?_
    refine wp_seq ?_
    refine wpr ?_
    refine wpl rfl rfl ht (ev_move ht rfl rfl) ?_
    intro a ht
    refine wpl rfl rfl ht (ev_move ht rfl rfl) ?_
    intro a ht
    refine wpl rfl rfl ht (ev_len_of ht rfl rfl und_25 (hm.fact (φ := IntsAt A c m a_) 0 rfl)) ?_
    intro a ht
    refine wpl rfl rfl ht (ev_cmp ht rfl rfl rfl rfl) ?_
    intro a ht
    refine wpList_nil ?_
    refine then_normal ?_
    by_cases h3 : xs0_1 < (a_.length : Int)
    · replace H := ite_yes h3 H
      refine wpc_yes ht rfl (decide_eq_true h3) ?_
      refine wp_skip ?_
      refine then_normal ?_
      refine wp_seq ?_
      refine wp_block ?_
      refine wp_seq ?_
      refine wph_begin (fun w => Ms X (fps []) w0 [] [IntsAt A c m a_, IntsAt A2 c2 m2 b] w) mixed ?_
      replace hm := hm.drew
      have hS : Ms X (fps []) w0 [] [IntsAt A c m a_, IntsAt A2 c2 m2 b] w.drew := (hm.pick [] rfl (by decide)).pickφ [0, 1] rfl
      generalize w.drew = w at hm hS ⊢
      refine wph_take (i := 0) rfl (by kernel_rfl) (by kernel_rfl) (by kernel_rfl) (fun _ _ _ h => h) rfl ht hS (wanted_plain rfl) (fun w hm => ev_move ht rfl rfl) ?_
      intro a ht
      refine wph_take (i := 1) rfl (by kernel_rfl) (by kernel_rfl) (by kernel_rfl) (fun _ _ _ h => h) rfl ht hS (wanted_plain rfl) (fun w hm => ev_move ht rfl rfl) ?_
      intro a ht
      obtain ⟨t4, et4, H⟩ := bind_get H
      refine wph_take (i := 2) rfl (by kernel_rfl) (by kernel_rfl) (by kernel_rfl) (fun _ _ _ h => h) rfl ht hS (wanted_plain rfl) (fun w hm => ev_index_ints ht rfl rfl rfl so_25 (hm.fact (φ := IntsAt A c m a_) 0 rfl) et4) ?_
      intro a ht
      refine wph_take (i := 3) rfl (by kernel_rfl) (by kernel_rfl) (by kernel_rfl) (fun _ _ _ h => h) rfl ht hS (wanted_plain rfl) (fun w hm => ev_load ht rfl rfl sc_2 (RowAt.cell (hm.fact (φ := IntsAt A c m a_) 0 rfl) (ints_get et4) rfl)) ?_
      intro a ht
      refine wph_take (i := 4) rfl (by kernel_rfl) (by kernel_rfl) (by kernel_rfl) (fun _ _ _ h => h) rfl ht hS (wanted_plain rfl) (fun w hm => ev_move ht rfl rfl) ?_
      intro a ht
      refine wph_take (i := 5) rfl (by kernel_rfl) (by kernel_rfl) (by kernel_rfl) (fun _ _ _ h => h) rfl ht hS (wanted_plain rfl) (fun w hm => ev_move ht rfl rfl) ?_
      intro a ht
      obtain ⟨t5, et5, H⟩ := bind_get H
      refine wph_take (i := 6) rfl (by kernel_rfl) (by kernel_rfl) (by kernel_rfl) (fun _ _ _ h => h) rfl ht hS (wanted_plain rfl) (fun w hm => ev_index_ints ht rfl rfl rfl so_25 (hm.fact (φ := IntsAt A2 c2 m2 b) 1 rfl) et5) ?_
      intro a ht
      refine wph_take (i := 7) rfl (by kernel_rfl) (by kernel_rfl) (by kernel_rfl) (fun _ _ _ h => h) rfl ht hS (wanted_plain rfl) (fun w hm => ev_load ht rfl rfl sc_2 (RowAt.cell (hm.fact (φ := IntsAt A2 c2 m2 b) 1 rfl) (ints_get et5) rfl)) ?_
      intro a ht
      refine wph_take (i := 8) rfl (by kernel_rfl) (by kernel_rfl) (by kernel_rfl) (fun _ _ _ h => h) rfl ht hS (wanted_plain rfl) (fun w hm => ev_cmp ht rfl rfl rfl rfl) ?_
      intro a ht
      refine wph_done (by kernel_rfl) ?_
      refine then_normal ?_
      by_cases h6 : t4 ≠ t5
      · replace H := ite_yes h6 H
        refine wpc_yes ht rfl (decide_eq_true h6) ?_
        refine wp_seq ?_
        refine wpr ?_
        refine wpl rfl rfl ht (ev_assign ht rfl rfl) ?_
        intro a ht
        refine wpList_nil ?_
        refine then_normal ?_
        refine wp_ret ?_
        refine blk_ret ?_
        refine then_ret ?_
        refine then_ret ?_
        refine blk_ret ?_
        refine then_ret ?_
        have hres := ht.res (P := Try.prog) (w := w) (rs := [.tmp 4]) (vs := [.bool false]) (.tmp rfl .nil)
        obtain rfl := Option.some.inj H
        exact leave ht rfl hres ⟨rfl, ((hm.pick [] rfl (by decide)).pickφ [] rfl).post fun _ h => h⟩
      · replace H := ite_no h6 H
        refine wpc_no ht rfl (decide_eq_false h6) ?_
        refine wp_skip ?_
        refine blk_normal ?_
        refine then_normal ?_
        refine wpr ?_
        refine wpl rfl rfl ht (ev_move ht rfl rfl) ?_
        intro a ht
        refine wpl rfl rfl ht (ev_arith ht rfl rfl rfl rfl) ?_
        intro a ht
        refine wpl rfl rfl ht (ev_assign ht rfl rfl) ?_
        intro a ht
        refine wpList_nil ?_
        exact then_normal ⟨q2, by omega, (w64 (xs0_1 + 1)), H, by omega, ht.sub ⟨rfl, rfl, rfl, rfl, trivial⟩, (hm.pick [] rfl (by decide)).pickφ [0, 1] rfl⟩
    · replace H := ite_no h3 H
      refine wpc_no ht rfl (decide_eq_false h3) ?_
      refine wp_exit ?_
      refine then_exit ?_
      refine then_exit ?_
      refine blk_hit ?_
      refine then_normal ?_
      refine wp_seq ?_
      refine wpr ?_
      refine wpl rfl rfl ht (ev_assign ht rfl rfl) ?_
      intro a ht
      refine wpList_nil ?_
      refine then_normal ?_
      refine wp_ret ?_
      have hres := ht.res (P := Try.prog) (w := w) (rs := [.tmp 4]) (vs := [.bool true]) (.tmp rfl .nil)
      obtain rfl := Option.some.inj H
      exact leave ht rfl hres ⟨rfl, ((hm.pick [] rfl (by decide)).pickφ [] rfl).post fun _ h => h⟩

/-! ### laws_markInt64S: function 14 (loop.example/g01362/laws.markInt64S) -/
def laws_markInt64S.l0 : Nat → List Int → Int → Int → Option (Int × List Int)
  | 0, _, _, _ => none
  | q1 + 1, ls0_1, xs0_2, xs0_3 => if xs0_3 < (ls0_1.length : Int) then ((getI ls0_1 xs0_3).bind fun t3 => laws_markInt64S.l0 q1 (ls0_1.set xs0_3.toNat xs0_2) (w64 (xs0_2 + 1)) (w64 (xs0_3 + 1))) else (some (xs0_2, ls0_1))
def laws_markInt64S.f (k : Nat) (a_ : List Int) (k_ : Int) : Option (Int × List Int) := laws_markInt64S.l0 k a_ k_ 0
set_option maxRecDepth 100000 in
set_option maxHeartbeats 1000000 in
theorem laws_markInt64S.calls (k : Nat) (X : List Nat) (w0 : World) (A : Option Addr) (c : Nat) (m : Nat) (a_ : List Int) (k_ : Int) (r : Int × List Int)
    (hp : Pre X w0 [.vec A c 2 1 m (ints a_)] []) (H : laws_markInt64S.f k a_ k_ = some r) :
    Calls Try.prog 14 [.slice A m c, .int .i64 k_].toArray w0 (Ret fun v w => v = .int .i64 r.1 ∧ Post X (fps [.vec A c 2 1 m (ints a_)]) w0 [.vec A c 2 1 m (ints r.2)] [] w) := by
  unfold laws_markInt64S.f at H
  refine enterM (n := 19) hp Try.func14 rfl rfl (Nat.le_of_ble_eq_true rfl) fun a w ht hm => ?_
  refine wp_seq ?_
  refine wpr ?_
  refine wpl rfl rfl ht (ev_assign ht rfl rfl) ?_
  intro a ht
  refine wpList_nil ?_
  refine then_normal ?_
  refine wp_seq ?_
  refine wp_seq ?_
  refine wpr ?_
  refine wpl rfl rfl ht (ev_assign ht rfl rfl) ?_
  intro a ht
  refine wpList_nil ?_
  refine then_normal ?_
  refine wp_block ?_
  refine wpLoop (fun q a w => ∃ (ls0_1 : List Int) (xs0_2 : Int) (xs0_3 : Int), laws_markInt64S.l0 q ls0_1 xs0_2 xs0_3 = some r ∧ q ≤ k ∧ Tm 19 [(0, .slice A m c), (4, .int .i64 0), (1, .int .i64 xs0_2), (5, .int .i64 xs0_3)] a ∧ Ms X (fps [.vec A c 2 1 m (ints a_)]) w0 [.vec A c 2 1 m (ints ls0_1)] [] w) (k0 := k) ⟨a_, k_, 0, H, Nat.le_refl _, ht.sub ⟨rfl, rfl, rfl, rfl, trivial⟩, (hm.pick [0] rfl (by decide)).pickφ [] rfl⟩ ?_
  clear H ht hm
  intro q1 a w hJ
  obtain ⟨ls0_1, xs0_2, xs0_3, H, hqq1, ht, hm⟩ := hJ
  cases q1 with
  | zero => cases H
  | succ q1 =>
  rw [laws_markInt64S.l0] at H
  refine wp_seq ?_
  refine wp_seq ?_
  refine wpr ?_
  refine wpl rfl rfl ht (ev_move ht rfl rfl) ?_
  intro a ht
  refine wpl rfl rfl ht (ev_move ht rfl rfl) ?_
  intro a ht
  refine wpl rfl rfl ht (ev_len_of ht rfl rfl und_25 (hm.vec_row 0 rfl)) ?_
  intro a ht
  refine wpl rfl rfl ht (ev_cmp ht rfl rfl rfl rfl) ?_
  intro a ht
  refine wpList_nil ?_
  refine then_normal ?_
  by_cases h2 : xs0_3 < (ls0_1.length : Int)
  · replace H := ite_yes h2 H
    refine wpc_yes ht rfl (decide_eq_true h2) ?_
    refine wp_skip ?_
    refine then_normal ?_
    refine wp_seq ?_
    refine wp_block ?_
    refine wp_seq ?_
    refine wpr ?_
    refine wpl rfl rfl ht (ev_move ht rfl rfl) ?_
    intro a ht
    refine wpl rfl rfl ht (ev_move ht rfl rfl) ?_
    intro a ht
    refine wpl rfl rfl ht (ev_move ht rfl rfl) ?_
    intro a ht
    obtain ⟨t3, et3, H⟩ := bind_get H
    refine wpl rfl rfl ht (ev_index_ints ht rfl rfl rfl so_25 (hm.vec_row 0 rfl) et3) ?_
    intro a ht
    refine wpl_store_int 0 rfl rfl ht hm rfl rfl rfl sz1_2 rfl et3 ?_
    intro a ht w hm
    refine wpList_nil ?_
    refine then_normal ?_
    refine wpr ?_
    refine wpl rfl rfl ht (ev_move ht rfl rfl) ?_
    intro a ht
    refine wpl rfl rfl ht (ev_arith ht rfl rfl rfl rfl) ?_
    intro a ht
    refine wpl rfl rfl ht (ev_assign ht rfl rfl) ?_
    intro a ht
    refine wpList_nil ?_
    refine blk_normal ?_
    refine then_normal ?_
    refine wpr ?_
    refine wpl rfl rfl ht (ev_move ht rfl rfl) ?_
    intro a ht
    refine wpl rfl rfl ht (ev_arith ht rfl rfl rfl rfl) ?_
    intro a ht
    refine wpl rfl rfl ht (ev_assign ht rfl rfl) ?_
    intro a ht
    refine wpList_nil ?_
    exact then_normal ⟨q1, by omega, (ls0_1.set xs0_3.toNat xs0_2), (w64 (xs0_2 + 1)), (w64 (xs0_3 + 1)), H, by omega, ht.sub ⟨rfl, rfl, rfl, rfl, trivial⟩, (hm.pick [0] rfl (by decide)).pickφ [] rfl⟩
  · replace H := ite_no h2 H
    refine wpc_no ht rfl (decide_eq_false h2) ?_
    refine wp_exit ?_
    refine then_exit ?_
    refine then_exit ?_
    refine blk_hit ?_
    refine then_normal ?_
    refine wp_seq ?_
    refine wpr ?_
    refine wpl rfl rfl ht (ev_move ht rfl rfl) ?_
    intro a ht
    refine wpl rfl rfl ht (ev_assign ht rfl rfl) ?_
    intro a ht
    refine wpList_nil ?_
    refine then_normal ?_
    refine wp_ret ?_
    have hres := ht.res (P := Try.prog) (w := w) (rs := [.tmp 4]) (vs := [.int .i64 xs0_2]) (.tmp rfl .nil)
    obtain rfl := Option.some.inj H
    exact leave ht rfl hres ⟨rfl, ((hm.pick [0] rfl (by decide)).pickφ [] rfl).post fun _ h => h⟩

end Go.Proofs.Ytocjhmeekecdiaa.G
