/- What each Go function computes, as a Lean function, and the proof that it does: written by a program of this session (wip/gen), part 9. -/
import Derived.Test.YtocjhmeekecdiaaGFnExactFirstExtension8
namespace Go.Proofs.Ytocjhmeekecdiaa.G
open Go Go.RowKit Go.Proofs.Ytocjhmeekecdiaa.K
set_option linter.unusedVariables false
set_option linter.unusedSimpArgs false

/-! ### impl_Colouring_extensions__Colouring_firstExtension_1: function 76 ((*loop.example/g01362/impl.Colouring).extensions) -/
mutual
def impl_Colouring_extensions__Colouring_firstExtension_1.l0 : Nat → Col → List Int → List Int → Int → List Int → Int → Option (Bool × List Int)
  | 0, _, _, _, _, _, _ => none
  | q7 + 1, x, sizes, list, t1, ls0_4, xs0_5 => if xs0_5 < x.k then (impl_Colouring_extensions__Colouring_firstExtension_1.l1 q7 x sizes list t1 ls0_4 xs0_5 ([] : List Int) 0) else (some (true, ls0_4))
def impl_Colouring_extensions__Colouring_firstExtension_1.l1 : Nat → Col → List Int → List Int → Int → List Int → Int → List Int → Int → Option (Bool × List Int)
  | 0, _, _, _, _, _, _, _, _ => none
  | q10 + 1, x, sizes, list, t1, ls0_4, xs0_5, ls1_4, xs1_5 => if xs1_5 < (list.length : Int) then ((getI list xs1_5).bind fun t12 => if t12 = xs0_5 then ((impl_Colouring_joins.f x xs1_5 t1 xs0_5).bind fun t14 => if t14 = true then ((push ls1_4 xs1_5).bind fun l20 => impl_Colouring_extensions__Colouring_firstExtension_1.l1 q10 x sizes list t1 ls0_4 xs0_5 l20 (w64 (xs1_5 + 1))) else (impl_Colouring_extensions__Colouring_firstExtension_1.l1 q10 x sizes list t1 ls0_4 xs0_5 ls1_4 (w64 (xs1_5 + 1)))) else (impl_Colouring_extensions__Colouring_firstExtension_1.l1 q10 x sizes list t1 ls0_4 xs0_5 ls1_4 (w64 (xs1_5 + 1)))) else ((getI sizes xs0_5).bind fun t21 => (impl_Colouring_hasClique.f q10 x xs0_5 (w64 (t21 - 2)) ls1_4).bind fun t22 => if t22 = true then (impl_Colouring_extensions__Colouring_firstExtension_1.l0 q10 x sizes list t1 ls0_4 (w64 (xs0_5 + 1))) else ((guardO (list.length < 17)).bind fun _ => (push list xs0_5).bind fun l29 => (impl_Colouring_extensions__Colouring_firstExtension_1.f q10 x sizes l29 ls0_4).bind fun t30 => if t30.1 = true then (impl_Colouring_extensions__Colouring_firstExtension_1.l0 q10 x sizes list t1 t30.2 (w64 (xs0_5 + 1))) else (some (false, t30.2))))
def impl_Colouring_extensions__Colouring_firstExtension_1.f : Nat → Col → List Int → List Int → List Int → Option (Bool × List Int)
  | 0, _, _, _, _ => none
  | k + 1, x, sizes, list, with_ => (impl_size_int64.f list).bind fun t1 => if t1 = x.p then ((impl_Colouring_firstExtension_1.f list with_).bind fun t3 => some (t3.1, t3.2)) else (impl_Colouring_extensions__Colouring_firstExtension_1.l0 k x sizes list t1 with_ 0)
end
set_option maxRecDepth 100000 in
set_option maxHeartbeats 1000000 in
theorem impl_Colouring_extensions__Colouring_firstExtension_1.calls (k : Nat) (X : List Nat) (w0 : World) (b : Nat) (A : Option Addr) (c : Nat) (m : Nat) (A2 : Option Addr) (m2 : Nat) (b2 : Nat) (A3 : Option Addr) (c2 : Nat) (m3 : Nat) (x : Col) (sizes : List Int) (list : List Int) (with_ : List Int) (r : Bool × List Int)
    (hp : Pre X w0 [.blk b 28 (Col.cells x), .vec A2 17 2 1 m2 (ints list), .blk b2 25 [.slice A3 m3 c2], .vec A3 c2 2 1 m3 (ints with_)] [IntsAt A c m sizes]) (H : impl_Colouring_extensions__Colouring_firstExtension_1.f k x sizes list with_ = some r) :
    Calls Try.prog 76 [.pointer (some ⟨b, 0, none⟩), .slice A m c, .slice A2 m2 17, .func (.func 58) [].toArray [.pointer (some ⟨b2, 0, none⟩)].toArray].toArray w0 (Ret fun v w => ∃ (B_2_0 : Option Addr) (d_2_0 : Nat) (m_2_0 : Nat), v = .bool r.1 ∧ Post X (fps [.blk b 28 (Col.cells x), .vec A2 17 2 1 m2 (ints list), .blk b2 25 [.slice A3 m3 c2], .vec A3 c2 2 1 m3 (ints with_)]) w0 [.blk b 28 (Col.cells x), .vec A2 17 2 1 m2 (ints list), .vec B_2_0 d_2_0 2 1 m_2_0 (ints r.2), .blk b2 25 [.slice B_2_0 m_2_0 d_2_0]] [] w) := by
  induction k using Nat.strongRecOn generalizing X w0 b A c m A2 m2 b2 A3 c2 m3 x sizes list with_ r with
  | _ k ih =>
  cases k with
  | zero => cases H
  | succ k =>
  rw [impl_Colouring_extensions__Colouring_firstExtension_1.f] at H
  refine enterM (n := 77) hp Try.func76 rfl rfl (Nat.le_of_ble_eq_true rfl) fun a w ht hm => ?_
  induction k using Nat.strongRecOn with
  | _ k ih =>
  refine wp_seq ?_
  refine wpr ?_
  refine wpl rfl rfl ht (ev_assign ht rfl rfl) ?_
  intro a ht
  refine wpList_nil ?_
  refine then_normal ?_
  refine wp_seq ?_
  refine wpr ?_
  refine wpl rfl rfl ht (ev_move ht rfl rfl) ?_
  intro a ht
  obtain ⟨t1, et1, H⟩ := bind_get H
  have hcall := impl_size_int64.calls _ _ A2 17 m2 list _ ((fun (hq : Ms _ _ _ ([] ++ [.blk b 28 (Col.cells x), .vec A2 17 2 1 m2 (ints list), .blk b2 25 [.slice A3 m3 c2], .vec A3 c2 2 1 m3 (ints with_)]) _ _) => hq.lend (φp := [IntsAt A2 17 m2 list]) (allRO_cons (hq.lendVec 1 rfl) (allRO_nil))) (hm.pick (own' := [] ++ [.blk b 28 (Col.cells x), .vec A2 17 2 1 m2 (ints list), .blk b2 25 [.slice A3 m3 c2], .vec A3 c2 2 1 m3 (ints with_)]) [0, 1, 2, 3] rfl (by decide))) et1
  refine wpl_call _ rfl rfl ht rfl rfl rfl rfl can_64 hcall ?_
  clear hcall
  rintro _ w ⟨rfl, hpost⟩ a ht
  replace hm := (hm.pick (own' := [] ++ [.blk b 28 (Col.cells x), .vec A2 17 2 1 m2 (ints list), .blk b2 25 [.slice A3 m3 c2], .vec A3 c2 2 1 m3 (ints with_)]) [0, 1, 2, 3] rfl (by decide)).backL hpost
  clear hpost
  refine wpl rfl rfl ht (ev_assign ht rfl rfl) ?_
  intro a ht
  refine wpList_nil ?_
  refine then_normal ?_
  refine wp_seq ?_
  refine wp_seq ?_
  refine wpr ?_
  refine wpl rfl rfl ht (ev_move ht rfl rfl) ?_
  intro a ht
  refine wpl rfl rfl ht (ev_move ht rfl rfl) ?_
  intro a ht
  refine wpl rfl rfl ht (ev_nilCheck ht rfl rfl) ?_
  intro a ht
  refine wpl rfl rfl ht (ev_fieldAddr ht rfl rfl fo_28_0) ?_
  intro a ht
  refine wpl rfl rfl ht (ev_load ht rfl rfl sc_2 (hm.blk_cell 0 rfl rfl)) ?_
  intro a ht
  refine wpl rfl rfl ht (ev_cmp ht rfl rfl rfl rfl) ?_
  intro a ht
  refine wpList_nil ?_
  refine then_normal ?_
  by_cases h2 : t1 = x.p
  · replace H := ite_yes h2 H
    refine wpc_yes ht rfl (decide_eq_true h2) ?_
    refine wp_seq ?_
    refine wpr ?_
    refine wpl rfl rfl ht (ev_move ht rfl rfl) ?_
    intro a ht
    refine wpl rfl rfl ht (ev_move ht rfl rfl) ?_
    intro a ht
    obtain ⟨t3, et3, H⟩ := bind_get H
    have hcall := impl_Colouring_firstExtension_1.calls _ _ A2 17 m2 b2 A3 c2 m3 list with_ _ ((fun (hq : Ms _ _ _ ([.blk b2 25 [.slice A3 m3 c2], .vec A3 c2 2 1 m3 (ints with_)] ++ [.blk b 28 (Col.cells x), .vec A2 17 2 1 m2 (ints list)]) _ _) => hq.lend (φp := [IntsAt A2 17 m2 list]) (allRO_cons (hq.lendVec 1 rfl) (allRO_nil))) (hm.pick (own' := [.blk b2 25 [.slice A3 m3 c2], .vec A3 c2 2 1 m3 (ints with_)] ++ [.blk b 28 (Col.cells x), .vec A2 17 2 1 m2 (ints list)]) [2, 3, 0, 1] rfl (by decide))) et3
    refine wpl_call _ rfl rfl ht rfl rfl rfl rfl can_58 hcall ?_
    clear hcall
    rintro _ w ⟨A4, c5, m6, rfl, hpost⟩ a ht
    replace hm := (hm.pick (own' := [.blk b2 25 [.slice A3 m3 c2], .vec A3 c2 2 1 m3 (ints with_)] ++ [.blk b 28 (Col.cells x), .vec A2 17 2 1 m2 (ints list)]) [2, 3, 0, 1] rfl (by decide)).backL hpost
    clear hpost
    refine wpl rfl rfl ht (ev_assign ht rfl rfl) ?_
    intro a ht
    refine wpList_nil ?_
    refine then_normal ?_
    refine wp_ret ?_
    refine then_ret ?_
    have hres := ht.res (P := Try.prog) (w := w) (rs := [.tmp 8]) (vs := [.bool t3.1]) (.tmp rfl .nil)
    obtain rfl := Option.some.inj H
    exact leave ht rfl hres ⟨A4, c5, m6, rfl, ((hm.pick [2, 3, 0, 1] rfl (by decide)).pickφ [] rfl).post fun _ h => h⟩
  · replace H := ite_no h2 H
    refine wpc_no ht rfl (decide_eq_false h2) ?_
    refine wp_skip ?_
    refine then_normal ?_
    refine wp_seq ?_
    refine wp_seq ?_
    refine wpr ?_
    refine wpl rfl rfl ht (ev_move ht rfl rfl) ?_
    intro a ht
    refine wpl rfl rfl ht (ev_nilCheck ht rfl rfl) ?_
    intro a ht
    refine wpl rfl rfl ht (ev_fieldAddr ht rfl rfl fo_28_1) ?_
    intro a ht
    refine wpl rfl rfl ht (ev_load ht rfl rfl sc_2 (hm.blk_cell 0 rfl rfl)) ?_
    intro a ht
    refine wpl rfl rfl ht (ev_move ht rfl rfl) ?_
    intro a ht
    refine wpList_nil ?_
    refine then_normal ?_
    refine wp_block ?_
    refine wpLoop (fun q a w => ∃ (ls0_4 : List Int) (xs0_5 : Int) (As0_1 : Option Addr) (cs0_2 : Nat) (ms0_3 : Nat), impl_Colouring_extensions__Colouring_firstExtension_1.l0 q x sizes list t1 ls0_4 xs0_5 = some r ∧ q ≤ k ∧ Tm 77 [(0, .pointer (some ⟨b, 0, none⟩)), (1, .slice A m c), (2, .slice A2 m2 17), (3, .func (.func 58) [].toArray [.pointer (some ⟨b2, 0, none⟩)].toArray), (8, .bool false), (9, .int .i64 t1), (28, .int .i64 x.k), (29, .int .i64 xs0_5)] a ∧ Ms X (fps [.blk b 28 (Col.cells x), .vec A2 17 2 1 m2 (ints list), .blk b2 25 [.slice A3 m3 c2], .vec A3 c2 2 1 m3 (ints with_)]) w0 [.blk b 28 (Col.cells x), .vec A2 17 2 1 m2 (ints list), .blk b2 25 [.slice As0_1 ms0_3 cs0_2], .vec As0_1 cs0_2 2 1 ms0_3 (ints ls0_4)] [IntsAt A c m sizes] w) (k0 := k) ⟨with_, 0, A3, c2, m3, H, Nat.le_refl _, ht.sub ⟨rfl, rfl, rfl, rfl, rfl, rfl, rfl, rfl, trivial⟩, (hm.pick [0, 1, 2, 3] rfl (by decide)).pickφ [0] rfl⟩ ?_
    clear H ht hm
    intro q7 a w hJ
    obtain ⟨ls0_4, xs0_5, As0_1, cs0_2, ms0_3, H, hqq7, ht, hm⟩ := hJ
    cases q7 with
    | zero => cases H
    | succ q7 =>
    rw [impl_Colouring_extensions__Colouring_firstExtension_1.l0] at H
    refine wp_seq ?_
    refine wpr ?_
    refine wpl rfl rfl ht (ev_cmp ht rfl rfl rfl rfl) ?_
    intro a ht
    refine wpList_nil ?_
    refine then_normal ?_
    refine wp_seq ?_
    by_cases h8 : xs0_5 < x.k
    · replace H := ite_yes h8 H
      refine wpc_yes ht rfl (decide_eq_true h8) ?_
      refine wp_skip ?_
      refine then_normal ?_
      refine wp_seq ?_
      refine wp_block ?_
      refine wp_seq ?_
      refine wpr ?_
      refine wpl rfl rfl ht (ev_move ht rfl rfl) ?_
      intro a ht
      refine wpl rfl rfl ht (ev_assign ht rfl rfl) ?_
      intro a ht
      refine wpList_nil ?_
      refine then_normal ?_
      refine wp_seq ?_
      refine wpr ?_
      refine wpl_build_ints (l := ([] : List Int)) rfl rfl ht hm rfl und_25 zo_2 sz1_2 (by decide) rfl rfl rfl ?_
      intro A9 a ht w hm
      refine wpl rfl rfl ht (ev_assign ht rfl rfl) ?_
      intro a ht
      refine wpList_nil ?_
      refine then_normal ?_
      refine wp_seq ?_
      refine wp_seq ?_
      refine wpr ?_
      refine wpl rfl rfl ht (ev_move ht rfl rfl) ?_
      intro a ht
      refine wpl rfl rfl ht (ev_len_of ht rfl rfl und_25 (hm.vec_row 2 rfl)) ?_
      intro a ht
      refine wpl rfl rfl ht (ev_move ht rfl rfl) ?_
      intro a ht
      refine wpList_nil ?_
      refine then_normal ?_
      refine wp_block ?_
      refine wpLoop (fun q a w => ∃ (ls1_4 : List Int) (xs1_5 : Int) (As1_1 : Option Addr) (cs1_2 : Nat) (ms1_3 : Nat), impl_Colouring_extensions__Colouring_firstExtension_1.l1 q x sizes list t1 ls0_4 xs0_5 ls1_4 xs1_5 = some r ∧ q ≤ q7 ∧ Tm 77 [(0, .pointer (some ⟨b, 0, none⟩)), (1, .slice A m c), (2, .slice A2 m2 17), (3, .func (.func 58) [].toArray [.pointer (some ⟨b2, 0, none⟩)].toArray), (8, .bool false), (9, .int .i64 t1), (10, .int .i64 xs0_5), (11, .slice As1_1 ms1_3 cs1_2), (28, .int .i64 x.k), (29, .int .i64 xs0_5), (30, .bool (decide (xs0_5 < x.k))), (31, .int .i64 xs0_5), (33, .slice A2 m2 17), (34, .int .i64 (list.length : Int)), (35, .int .i64 xs1_5)] a ∧ Ms X (fps [.blk b 28 (Col.cells x), .vec A2 17 2 1 m2 (ints list), .blk b2 25 [.slice A3 m3 c2], .vec A3 c2 2 1 m3 (ints with_)]) w0 [.vec As1_1 cs1_2 2 1 ms1_3 (ints ls1_4), .blk b 28 (Col.cells x), .vec A2 17 2 1 m2 (ints list), .blk b2 25 [.slice As0_1 ms0_3 cs0_2], .vec As0_1 cs0_2 2 1 ms0_3 (ints ls0_4)] [IntsAt A c m sizes] w) (k0 := q7) ⟨([] : List Int), 0, A9, 0, 0, H, Nat.le_refl _, ht.sub ⟨rfl, rfl, rfl, rfl, rfl, rfl, rfl, rfl, rfl, rfl, rfl, rfl, rfl, rfl, rfl, trivial⟩, (hm.pick [0, 1, 2, 3, 4] rfl (by decide)).pickφ [0] rfl⟩ ?_
      clear H ht hm
      intro q10 a w hJ
      obtain ⟨ls1_4, xs1_5, As1_1, cs1_2, ms1_3, H, hqq10, ht, hm⟩ := hJ
      cases q10 with
      | zero => cases H
      | succ q10 =>
      rw [impl_Colouring_extensions__Colouring_firstExtension_1.l1] at H
      refine wp_seq ?_
      refine wpr ?_
      refine wpl rfl rfl ht (ev_cmp ht rfl rfl rfl rfl) ?_
      intro a ht
      refine wpList_nil ?_
      refine then_normal ?_
      refine wp_seq ?_
      by_cases h11 : xs1_5 < (list.length : Int)
      · replace H := ite_yes h11 H
        refine wpc_yes ht rfl (decide_eq_true h11) ?_
        refine wp_skip ?_
        refine then_normal ?_
        refine wp_seq ?_
        refine wp_block ?_
        refine wp_seq ?_
        refine wpr ?_
        refine wpl rfl rfl ht (ev_move ht rfl rfl) ?_
        intro a ht
        obtain ⟨t12, et12, H⟩ := bind_get H
        refine wpl rfl rfl ht (ev_index_ints ht rfl rfl rfl so_25 (hm.vec_row 2 rfl) et12) ?_
        intro a ht
        refine wpl rfl rfl ht (ev_load ht rfl rfl sc_2 (RowAt.cell (hm.vec_row 2 rfl) (ints_get et12) rfl)) ?_
        intro a ht
        refine wpl rfl rfl ht (ev_assign ht rfl rfl) ?_
        intro a ht
        refine wpl rfl rfl ht (ev_assign ht rfl rfl) ?_
        intro a ht
        refine wpList_nil ?_
        refine then_normal ?_
        refine wp_seq ?_
        refine wpr ?_
        refine wpl rfl rfl ht (ev_move ht rfl rfl) ?_
        intro a ht
        refine wpl rfl rfl ht (ev_move ht rfl rfl) ?_
        intro a ht
        refine wpl rfl rfl ht (ev_cmp ht rfl rfl rfl rfl) ?_
        intro a ht
        refine wpl rfl rfl ht (ev_move ht rfl rfl) ?_
        intro a ht
        by_cases h13 : t12 = xs0_5
        · replace H := ite_yes h13 H
          refine wpl_yes rfl ht rfl ((decide_eq_true h13)) ?_
          refine wpl rfl rfl ht (ev_move ht rfl rfl) ?_
          intro a ht
          refine wpl_yes rfl ht rfl ((decide_eq_true h13)) ?_
          refine wpl rfl rfl ht (ev_move ht rfl rfl) ?_
          intro a ht
          refine wpl_yes rfl ht rfl ((decide_eq_true h13)) ?_
          refine wpl rfl rfl ht (ev_move ht rfl rfl) ?_
          intro a ht
          refine wpl_yes rfl ht rfl ((decide_eq_true h13)) ?_
          refine wpl rfl rfl ht (ev_move ht rfl rfl) ?_
          intro a ht
          refine wpl_yes rfl ht rfl ((decide_eq_true h13)) ?_
          obtain ⟨t14, et14, H⟩ := bind_get H
          have hcall := impl_Colouring_joins.calls _ _ b x xs1_5 t1 xs0_5 _ ((fun (hq : Ms _ _ _ ([.blk b 28 (Col.cells x)] ++ [.vec As1_1 cs1_2 2 1 ms1_3 (ints ls1_4), .vec A2 17 2 1 m2 (ints list), .blk b2 25 [.slice As0_1 ms0_3 cs0_2], .vec As0_1 cs0_2 2 1 ms0_3 (ints ls0_4)]) _ _) => hq.lend (φp := []) (allRO_nil)) (hm.pick (own' := [.blk b 28 (Col.cells x)] ++ [.vec As1_1 cs1_2 2 1 ms1_3 (ints ls1_4), .vec A2 17 2 1 m2 (ints list), .blk b2 25 [.slice As0_1 ms0_3 cs0_2], .vec As0_1 cs0_2 2 1 ms0_3 (ints ls0_4)]) [1, 0, 2, 3, 4] rfl (by decide))) et14
          refine wpl_call _ rfl rfl ht rfl rfl rfl rfl can_50 hcall ?_
          clear hcall
          rintro _ w ⟨rfl, hpost⟩ a ht
          replace hm := (hm.pick (own' := [.blk b 28 (Col.cells x)] ++ [.vec As1_1 cs1_2 2 1 ms1_3 (ints ls1_4), .vec A2 17 2 1 m2 (ints list), .blk b2 25 [.slice As0_1 ms0_3 cs0_2], .vec As0_1 cs0_2 2 1 ms0_3 (ints ls0_4)]) [1, 0, 2, 3, 4] rfl (by decide)).backL hpost
          clear hpost
          refine wpl rfl rfl ht (ev_pick_yes ht rfl rfl (decide_eq_true h13) rfl) ?_
          intro a ht
          refine wpList_nil ?_
          refine then_normal ?_
          by_cases h15 : t14 = true
          · replace H := ite_yes h15 H
            refine wpc_yes ht rfl h15 ?_
            refine wpr ?_
            refine wpl rfl rfl ht (ev_move ht rfl rfl) ?_
            intro a ht
            refine wpl rfl rfl ht (ev_move ht rfl rfl) ?_
            intro a ht
            refine wpl_build_ints (l := [xs1_5]) rfl rfl ht hm rfl und_25 zo_2 sz1_2 (by decide) rfl rfl rfl ?_
            intro A16 a ht w hm
            obtain ⟨l20, el20, H⟩ := bind_get H
            refine wpl_push (r := l20) 2 0 rfl rfl ht hm rfl ap_25 rfl rfl rfl rfl el20 ?_
            intro A17 c18 m19 a ht w hm
            refine wpl rfl rfl ht (ev_assign ht rfl rfl) ?_
            intro a ht
            refine wpList_nil ?_
            refine blk_normal ?_
            refine then_normal ?_
            refine wpr ?_
            refine wpl rfl rfl ht (ev_arith ht rfl rfl rfl rfl) ?_
            intro a ht
            refine wpl rfl rfl ht (ev_move ht rfl rfl) ?_
            intro a ht
            refine wpList_nil ?_
            exact then_normal ⟨q10, by omega, l20, (w64 (xs1_5 + 1)), A17, c18, m19, H, by omega, ht.sub ⟨rfl, rfl, rfl, rfl, rfl, rfl, rfl, rfl, rfl, rfl, rfl, rfl, rfl, rfl, rfl, trivial⟩, (hm.pick [2, 1, 3, 4, 5] rfl (by decide)).pickφ [0] rfl⟩
          · replace H := ite_no h15 H
            refine wpc_no ht rfl (Bool.eq_false_iff.mpr h15) ?_
            refine wp_skip ?_
            refine blk_normal ?_
            refine then_normal ?_
            refine wpr ?_
            refine wpl rfl rfl ht (ev_arith ht rfl rfl rfl rfl) ?_
            intro a ht
            refine wpl rfl rfl ht (ev_move ht rfl rfl) ?_
            intro a ht
            refine wpList_nil ?_
            exact then_normal ⟨q10, by omega, ls1_4, (w64 (xs1_5 + 1)), As1_1, cs1_2, ms1_3, H, by omega, ht.sub ⟨rfl, rfl, rfl, rfl, rfl, rfl, rfl, rfl, rfl, rfl, rfl, rfl, rfl, rfl, rfl, trivial⟩, (hm.pick [1, 0, 2, 3, 4] rfl (by decide)).pickφ [0] rfl⟩
        · replace H := ite_no h13 H
          refine wpl_no rfl rfl ht rfl (by rw [(decide_eq_false h13)]; decide) ?_
          intro a ht
          refine wpl_no rfl rfl ht rfl (by rw [(decide_eq_false h13)]; decide) ?_
          intro a ht
          refine wpl_no rfl rfl ht rfl (by rw [(decide_eq_false h13)]; decide) ?_
          intro a ht
          refine wpl_no rfl rfl ht rfl (by rw [(decide_eq_false h13)]; decide) ?_
          intro a ht
          refine wpl_no rfl rfl ht rfl (by rw [(decide_eq_false h13)]; decide) ?_
          intro a ht
          refine wpl rfl rfl ht (ev_pick_no ht rfl rfl (decide_eq_false h13) rfl) ?_
          intro a ht
          refine wpList_nil ?_
          refine then_normal ?_
          refine wpc_no ht rfl rfl ?_
          refine wp_skip ?_
          refine blk_normal ?_
          refine then_normal ?_
          refine wpr ?_
          refine wpl rfl rfl ht (ev_arith ht rfl rfl rfl rfl) ?_
          intro a ht
          refine wpl rfl rfl ht (ev_move ht rfl rfl) ?_
          intro a ht
          refine wpList_nil ?_
          exact then_normal ⟨q10, by omega, ls1_4, (w64 (xs1_5 + 1)), As1_1, cs1_2, ms1_3, H, by omega, ht.sub ⟨rfl, rfl, rfl, rfl, rfl, rfl, rfl, rfl, rfl, rfl, rfl, rfl, rfl, rfl, rfl, trivial⟩, (hm.pick [0, 1, 2, 3, 4] rfl (by decide)).pickφ [0] rfl⟩
      · replace H := ite_no h11 H
        refine wpc_no ht rfl (decide_eq_false h11) ?_
        refine wp_exit ?_
        refine then_exit ?_
        refine then_exit ?_
        refine blk_hit ?_
        refine then_normal ?_
        refine wp_seq ?_
        refine wpr ?_
        refine wpl rfl rfl ht (ev_move ht rfl rfl) ?_
        intro a ht
        refine wpl rfl rfl ht (ev_move ht rfl rfl) ?_
        intro a ht
        refine wpl rfl rfl ht (ev_move ht rfl rfl) ?_
        intro a ht
        refine wpl rfl rfl ht (ev_move ht rfl rfl) ?_
        intro a ht
        obtain ⟨t21, et21, H⟩ := bind_get H
        refine wpl rfl rfl ht (ev_index_ints ht rfl rfl rfl so_25 (hm.fact (φ := IntsAt A c m sizes) 0 rfl) et21) ?_
        intro a ht
        refine wpl rfl rfl ht (ev_load ht rfl rfl sc_2 (RowAt.cell (hm.fact (φ := IntsAt A c m sizes) 0 rfl) (ints_get et21) rfl)) ?_
        intro a ht
        refine wpl rfl rfl ht (ev_arith ht rfl rfl rfl rfl) ?_
        intro a ht
        refine wpl rfl rfl ht (ev_move ht rfl rfl) ?_
        intro a ht
        obtain ⟨t22, et22, H⟩ := bind_get H
        have hcall := impl_Colouring_hasClique.calls q10 _ _ b As1_1 cs1_2 ms1_3 x xs0_5 (w64 (t21 - 2)) ls1_4 _ ((fun (hq : Ms _ _ _ ([.blk b 28 (Col.cells x)] ++ [.vec As1_1 cs1_2 2 1 ms1_3 (ints ls1_4), .vec A2 17 2 1 m2 (ints list), .blk b2 25 [.slice As0_1 ms0_3 cs0_2], .vec As0_1 cs0_2 2 1 ms0_3 (ints ls0_4)]) _ _) => hq.lend (φp := [IntsAt As1_1 cs1_2 ms1_3 ls1_4]) (allRO_cons (hq.lendVec 0 rfl) (allRO_nil))) (hm.pick (own' := [.blk b 28 (Col.cells x)] ++ [.vec As1_1 cs1_2 2 1 ms1_3 (ints ls1_4), .vec A2 17 2 1 m2 (ints list), .blk b2 25 [.slice As0_1 ms0_3 cs0_2], .vec As0_1 cs0_2 2 1 ms0_3 (ints ls0_4)]) [1, 0, 2, 3, 4] rfl (by decide))) et22
        refine wpl_call _ rfl rfl ht rfl rfl rfl rfl can_52 hcall ?_
        clear hcall
        rintro _ w ⟨rfl, hpost⟩ a ht
        replace hm := (hm.pick (own' := [.blk b 28 (Col.cells x)] ++ [.vec As1_1 cs1_2 2 1 ms1_3 (ints ls1_4), .vec A2 17 2 1 m2 (ints list), .blk b2 25 [.slice As0_1 ms0_3 cs0_2], .vec As0_1 cs0_2 2 1 ms0_3 (ints ls0_4)]) [1, 0, 2, 3, 4] rfl (by decide)).backL hpost
        clear hpost
        refine wpl rfl rfl ht (ev_not ht rfl rfl) ?_
        intro a ht
        refine wpl rfl rfl ht (ev_move ht rfl rfl) ?_
        intro a ht
        by_cases h23 : t22 = true
        · replace H := ite_yes h23 H
          refine wpl_no rfl rfl ht rfl (by rw [(not_t h23)]; decide) ?_
          intro a ht
          refine wpl_no rfl rfl ht rfl (by rw [(not_t h23)]; decide) ?_
          intro a ht
          refine wpl_no rfl rfl ht rfl (by rw [(not_t h23)]; decide) ?_
          intro a ht
          refine wpl_no rfl rfl ht rfl (by rw [(not_t h23)]; decide) ?_
          intro a ht
          refine wpl_no rfl rfl ht rfl (by rw [(not_t h23)]; decide) ?_
          intro a ht
          refine wpl_no rfl rfl ht rfl (by rw [(not_t h23)]; decide) ?_
          intro a ht
          refine wpl_no rfl rfl ht rfl (by rw [(not_t h23)]; decide) ?_
          intro a ht
          refine wpl_no rfl rfl ht rfl (by rw [(not_t h23)]; decide) ?_
          intro a ht
          refine wpl_no rfl rfl ht rfl (by rw [(not_t h23)]; decide) ?_
          intro a ht
          refine wpl rfl rfl ht (ev_pick_no ht rfl rfl (not_t h23) rfl) ?_
          intro a ht
          refine wpList_nil ?_
          refine then_normal ?_
          refine wpc_no ht rfl rfl ?_
          refine wp_skip ?_
          refine blk_normal ?_
          refine then_normal ?_
          refine wpr ?_
          refine wpl rfl rfl ht (ev_arith ht rfl rfl rfl rfl) ?_
          intro a ht
          refine wpl rfl rfl ht (ev_move ht rfl rfl) ?_
          intro a ht
          refine wpList_nil ?_
          exact then_normal ⟨q10, by omega, ls0_4, (w64 (xs0_5 + 1)), As0_1, cs0_2, ms0_3, H, by omega, ht.sub ⟨rfl, rfl, rfl, rfl, rfl, rfl, rfl, rfl, trivial⟩, (hm.pick [0, 2, 3, 4] rfl (by decide)).pickφ [0] rfl⟩
        · replace H := ite_no h23 H
          refine wpl_yes rfl ht rfl ((not_f (Bool.eq_false_iff.mpr h23))) ?_
          refine wpl rfl rfl ht (ev_move ht rfl rfl) ?_
          intro a ht
          refine wpl_yes rfl ht rfl ((not_f (Bool.eq_false_iff.mpr h23))) ?_
          refine wpl rfl rfl ht (ev_move ht rfl rfl) ?_
          intro a ht
          refine wpl_yes rfl ht rfl ((not_f (Bool.eq_false_iff.mpr h23))) ?_
          refine wpl rfl rfl ht (ev_move ht rfl rfl) ?_
          intro a ht
          refine wpl_yes rfl ht rfl ((not_f (Bool.eq_false_iff.mpr h23))) ?_
          refine wpl rfl rfl ht (ev_move ht rfl rfl) ?_
          intro a ht
          refine wpl_yes rfl ht rfl ((not_f (Bool.eq_false_iff.mpr h23))) ?_
          refine wpl_build_ints (l := [xs0_5]) rfl rfl ht hm rfl und_25 zo_2 sz1_2 (by decide) rfl rfl rfl ?_
          intro A24 a ht w hm
          refine wpl_yes rfl ht rfl ((not_f (Bool.eq_false_iff.mpr h23))) ?_
          obtain ⟨u28, eu28, H⟩ := bind_get H
          obtain ⟨l29, el29, H⟩ := bind_get H
          refine wpl_push_in (r := l29) 3 0 rfl rfl ht hm rfl ap_25 rfl rfl rfl rfl (guardO_get eu28) el29 ?_
          intro a ht w hm
          refine wpl_yes rfl ht rfl ((not_f (Bool.eq_false_iff.mpr h23))) ?_
          refine wpl rfl rfl ht (ev_move ht rfl rfl) ?_
          intro a ht
          refine wpl_yes rfl ht rfl ((not_f (Bool.eq_false_iff.mpr h23))) ?_
          obtain ⟨t30, et30, H⟩ := bind_get H
          have hcall := ih q10 (by omega) _ _ b A c m A2 (m2 + 1) b2 As0_1 cs0_2 ms0_3 x sizes l29 ls0_4 _ ((fun (hq : Ms _ _ _ ([.blk b 28 (Col.cells x), .vec A2 17 2 1 (m2 + 1) (ints l29), .blk b2 25 [.slice As0_1 ms0_3 cs0_2], .vec As0_1 cs0_2 2 1 ms0_3 (ints ls0_4)] ++ [.vec A24 1 2 1 1 (ints ([xs0_5])), .vec As1_1 cs1_2 2 1 ms1_3 (ints ls1_4)]) _ _) => hq.lend (φp := [IntsAt A c m sizes]) (allRO_cons (hq.lendFact 0 rfl) (allRO_nil))) (hm.pick (own' := [.blk b 28 (Col.cells x), .vec A2 17 2 1 (m2 + 1) (ints l29), .blk b2 25 [.slice As0_1 ms0_3 cs0_2], .vec As0_1 cs0_2 2 1 ms0_3 (ints ls0_4)] ++ [.vec A24 1 2 1 1 (ints ([xs0_5])), .vec As1_1 cs1_2 2 1 ms1_3 (ints ls1_4)]) [1, 3, 4, 5, 0, 2] rfl (by decide))) et30
          refine wpl_call _ rfl rfl ht rfl rfl rfl rfl can_76 hcall ?_
          clear hcall
          rintro _ w ⟨A31, c32, m33, rfl, hpost⟩ a ht
          replace hm := (hm.pick (own' := [.blk b 28 (Col.cells x), .vec A2 17 2 1 (m2 + 1) (ints l29), .blk b2 25 [.slice As0_1 ms0_3 cs0_2], .vec As0_1 cs0_2 2 1 ms0_3 (ints ls0_4)] ++ [.vec A24 1 2 1 1 (ints ([xs0_5])), .vec As1_1 cs1_2 2 1 ms1_3 (ints ls1_4)]) [1, 3, 4, 5, 0, 2] rfl (by decide)).backL hpost
          clear hpost
          replace hm := hm.unpush (l := list) (m := m2) 1 rfl el29
          refine wpl_yes rfl ht rfl ((not_f (Bool.eq_false_iff.mpr h23))) ?_
          refine wpl rfl rfl ht (ev_not ht rfl rfl) ?_
          intro a ht
          refine wpl rfl rfl ht (ev_pick_yes ht rfl rfl (not_f (Bool.eq_false_iff.mpr h23)) rfl) ?_
          intro a ht
          refine wpList_nil ?_
          refine then_normal ?_
          by_cases h34 : t30.1 = true
          · replace H := ite_yes h34 H
            refine wpc_no ht rfl (not_t h34) ?_
            refine wp_skip ?_
            refine blk_normal ?_
            refine then_normal ?_
            refine wpr ?_
            refine wpl rfl rfl ht (ev_arith ht rfl rfl rfl rfl) ?_
            intro a ht
            refine wpl rfl rfl ht (ev_move ht rfl rfl) ?_
            intro a ht
            refine wpList_nil ?_
            exact then_normal ⟨q10, by omega, t30.2, (w64 (xs0_5 + 1)), A31, c32, m33, H, by omega, ht.sub ⟨rfl, rfl, rfl, rfl, rfl, rfl, rfl, rfl, trivial⟩, (hm.pick [0, 1, 3, 2] rfl (by decide)).pickφ [0] rfl⟩
          · replace H := ite_no h34 H
            refine wpc_yes ht rfl (not_f (Bool.eq_false_iff.mpr h34)) ?_
            refine wp_seq ?_
            refine wpr ?_
            refine wpl rfl rfl ht (ev_assign ht rfl rfl) ?_
            intro a ht
            refine wpList_nil ?_
            refine then_normal ?_
            refine wp_ret ?_
            refine blk_ret ?_
            refine then_ret ?_
            refine then_ret ?_
            refine blk_ret ?_
            refine then_ret ?_
            have hres := ht.res (P := Try.prog) (w := w) (rs := [.tmp 8]) (vs := [.bool false]) (.tmp rfl .nil)
            obtain rfl := Option.some.inj H
            exact leave ht rfl hres ⟨A31, c32, m33, rfl, ((hm.pick [0, 1, 2, 3] rfl (by decide)).pickφ [] rfl).post fun _ h => h⟩
    · replace H := ite_no h8 H
      refine wpc_no ht rfl (decide_eq_false h8) ?_
      refine wp_exit ?_
      refine then_exit ?_
      refine then_exit ?_
      refine blk_hit ?_
      refine then_normal ?_
      refine wp_seq ?_
      refine wpr ?_
      refine wpl rfl rfl ht (ev_assign ht rfl rfl) ?_
      intro a ht
      refine wpList_nil ?_
      refine then_normal ?_
      refine wp_ret ?_
      have hres := ht.res (P := Try.prog) (w := w) (rs := [.tmp 8]) (vs := [.bool true]) (.tmp rfl .nil)
      obtain rfl := Option.some.inj H
      exact leave ht rfl hres ⟨As0_1, cs0_2, ms0_3, rfl, ((hm.pick [0, 1, 3, 2] rfl (by decide)).pickφ [] rfl).post fun _ h => h⟩

/-! ### impl_Colouring_extend__Colouring_firstExtension_1: function 55 ((*loop.example/g01362/impl.Colouring).extend) -/
def impl_Colouring_extend__Colouring_firstExtension_1.f (k : Nat) (x : Col) (sizes : List Int) (with_ : List Int) : Option (Bool × List Int) := (impl_Colouring_extensions__Colouring_firstExtension_1.f k x sizes ([] : List Int) with_).bind fun t2 => some (t2.1, t2.2)
set_option maxRecDepth 100000 in
set_option maxHeartbeats 1000000 in
theorem impl_Colouring_extend__Colouring_firstExtension_1.calls (k : Nat) (X : List Nat) (w0 : World) (b : Nat) (A : Option Addr) (c : Nat) (m : Nat) (b2 : Nat) (A2 : Option Addr) (c2 : Nat) (m2 : Nat) (x : Col) (sizes : List Int) (with_ : List Int) (r : Bool × List Int)
    (hp : Pre X w0 [.blk b 28 (Col.cells x), .blk b2 25 [.slice A2 m2 c2], .vec A2 c2 2 1 m2 (ints with_)] [IntsAt A c m sizes]) (H : impl_Colouring_extend__Colouring_firstExtension_1.f k x sizes with_ = some r) :
    Calls Try.prog 55 [.pointer (some ⟨b, 0, none⟩), .slice A m c, .func (.func 58) [].toArray [.pointer (some ⟨b2, 0, none⟩)].toArray].toArray w0 (Ret fun v w => ∃ (B_1_0 : Option Addr) (d_1_0 : Nat) (m_1_0 : Nat), v = .bool r.1 ∧ Post X (fps [.blk b 28 (Col.cells x), .blk b2 25 [.slice A2 m2 c2], .vec A2 c2 2 1 m2 (ints with_)]) w0 [.blk b 28 (Col.cells x), .vec B_1_0 d_1_0 2 1 m_1_0 (ints r.2), .blk b2 25 [.slice B_1_0 m_1_0 d_1_0]] [] w) := by
  unfold impl_Colouring_extend__Colouring_firstExtension_1.f at H
  refine enterM (n := 12) hp Try.func55 rfl rfl (Nat.le_of_ble_eq_true rfl) fun a w ht hm => ?_
  refine wp_seq ?_
  refine wpr ?_
  refine wpl rfl rfl ht (ev_assign ht rfl rfl) ?_
  intro a ht
  refine wpList_nil ?_
  refine then_normal ?_
  refine wp_seq ?_
  refine wpr ?_
  refine wpl rfl rfl ht (ev_move ht rfl rfl) ?_
  intro a ht
  refine wpl rfl rfl ht (ev_move ht rfl rfl) ?_
  intro a ht
  refine wpl_make_cap (c := 17) rfl rfl ht hm rfl und_25 zo_2 sz1_2 by_2 rfl rfl (by decide) ?_
  intro A1 a ht w hm
  refine wpl rfl rfl ht (ev_move ht rfl rfl) ?_
  intro a ht
  obtain ⟨t2, et2, H⟩ := bind_get H
  have hcall := impl_Colouring_extensions__Colouring_firstExtension_1.calls k _ _ b A c m A1 0 b2 A2 c2 m2 x sizes ([] : List Int) with_ _ ((fun (hq : Ms _ _ _ ([.blk b 28 (Col.cells x), .vec A1 17 2 1 0 (ints ([] : List Int)), .blk b2 25 [.slice A2 m2 c2], .vec A2 c2 2 1 m2 (ints with_)] ++ []) _ _) => hq.lend (φp := [IntsAt A c m sizes]) (allRO_cons (hq.lendFact 0 rfl) (allRO_nil))) (hm.pick (own' := [.blk b 28 (Col.cells x), .vec A1 17 2 1 0 (ints ([] : List Int)), .blk b2 25 [.slice A2 m2 c2], .vec A2 c2 2 1 m2 (ints with_)] ++ []) [1, 0, 2, 3] rfl (by decide))) et2
  refine wpl_call _ rfl rfl ht rfl rfl rfl rfl can_76 hcall ?_
  clear hcall
  rintro _ w ⟨A3, c4, m5, rfl, hpost⟩ a ht
  replace hm := (hm.pick (own' := [.blk b 28 (Col.cells x), .vec A1 17 2 1 0 (ints ([] : List Int)), .blk b2 25 [.slice A2 m2 c2], .vec A2 c2 2 1 m2 (ints with_)] ++ []) [1, 0, 2, 3] rfl (by decide)).backL hpost
  clear hpost
  refine wpl rfl rfl ht (ev_assign ht rfl rfl) ?_
  intro a ht
  refine wpList_nil ?_
  refine then_normal ?_
  refine wp_ret ?_
  have hres := ht.res (P := Try.prog) (w := w) (rs := [.tmp 6]) (vs := [.bool t2.1]) (.tmp rfl .nil)
  obtain rfl := Option.some.inj H
  exact leave ht rfl hres ⟨A3, c4, m5, rfl, ((hm.pick [0, 2, 3] rfl (by decide)).pickφ [] rfl).post fun _ h => h⟩

/-! ### impl_Colouring_firstExtension: function 34 ((*loop.example/g01362/impl.Colouring).firstExtension) -/
def impl_Colouring_firstExtension.f (k : Nat) (x : Col) (sizes : List Int) : Option (List Int × Bool) := (impl_Colouring_extend__Colouring_firstExtension_1.f k x sizes ([] : List Int)).bind fun t3 => some (t3.2, !t3.1)
set_option maxRecDepth 100000 in
set_option maxHeartbeats 1000000 in
theorem impl_Colouring_firstExtension.calls (k : Nat) (X : List Nat) (w0 : World) (b : Nat) (A : Option Addr) (c : Nat) (m : Nat) (x : Col) (sizes : List Int) (r : List Int × Bool)
    (hp : Pre X w0 [.blk b 28 (Col.cells x)] [IntsAt A c m sizes]) (H : impl_Colouring_firstExtension.f k x sizes = some r) :
    Calls Try.prog 34 [.pointer (some ⟨b, 0, none⟩), .slice A m c].toArray w0 (Ret fun v w => ∃ (A_0 : Option Addr) (c_0 : Nat) (n_0 : Nat), v = .tuple [.slice A_0 n_0 c_0, .bool r.2].toArray ∧ Post X (fps [.blk b 28 (Col.cells x)]) w0 [.vec A_0 c_0 2 1 n_0 (ints r.1), .blk b 28 (Col.cells x)] [] w) := by
  unfold impl_Colouring_firstExtension.f at H
  refine enterM (n := 16) hp Try.func34 rfl rfl (Nat.le_of_ble_eq_true rfl) fun a w ht hm => ?_
  refine wp_seq ?_
  refine wpr ?_
  refine wpl rfl rfl ht (ev_assign ht rfl rfl) ?_
  intro a ht
  refine wpl rfl rfl ht (ev_assign ht rfl rfl) ?_
  intro a ht
  refine wpList_nil ?_
  refine then_normal ?_
  refine wp_seq ?_
  refine wpr ?_
  refine wpl_build_ints (l := ([] : List Int)) rfl rfl ht hm rfl und_25 zo_2 sz1_2 (by decide) rfl rfl rfl ?_
  intro A1 a ht w hm
  refine wpl_alloc rfl rfl ht hm rfl zo_25 ?_
  intro b2 a ht w hm
  refine wpl_store_blk 0 rfl rfl ht hm rfl rfl rfl sz1_25 rfl rfl rfl ?_
  intro a ht w hm
  refine wpList_nil ?_
  refine then_normal ?_
  refine wp_seq ?_
  refine wpr ?_
  refine wpl rfl rfl ht (ev_move ht rfl rfl) ?_
  intro a ht
  refine wpl rfl rfl ht (ev_move ht rfl rfl) ?_
  intro a ht
  refine wpl rfl rfl ht (ev_makeFunc ht rfl rfl rfl) ?_
  intro a ht
  obtain ⟨t3, et3, H⟩ := bind_get H
  have hcall := impl_Colouring_extend__Colouring_firstExtension_1.calls k _ _ b A c m b2 A1 0 0 x sizes ([] : List Int) _ ((fun (hq : Ms _ _ _ ([.blk b 28 (Col.cells x), .blk b2 25 [.slice A1 0 0], .vec A1 0 2 1 0 (ints ([] : List Int))] ++ []) _ _) => hq.lend (φp := [IntsAt A c m sizes]) (allRO_cons (hq.lendFact 0 rfl) (allRO_nil))) (hm.pick (own' := [.blk b 28 (Col.cells x), .blk b2 25 [.slice A1 0 0], .vec A1 0 2 1 0 (ints ([] : List Int))] ++ []) [2, 0, 1] rfl (by decide))) et3
  refine wpl_call _ rfl rfl ht rfl rfl rfl rfl can_55 hcall ?_
  clear hcall
  rintro _ w ⟨A4, c5, m6, rfl, hpost⟩ a ht
  replace hm := (hm.pick (own' := [.blk b 28 (Col.cells x), .blk b2 25 [.slice A1 0 0], .vec A1 0 2 1 0 (ints ([] : List Int))] ++ []) [2, 0, 1] rfl (by decide)).backL hpost
  clear hpost
  refine wpl rfl rfl ht (ev_assign ht rfl rfl) ?_
  intro a ht
  refine wpList_nil ?_
  refine then_normal ?_
  refine wp_seq ?_
  refine wpr ?_
  refine wpl rfl rfl ht (ev_load ht rfl rfl sc_25 (hm.blk_cell 2 rfl rfl)) ?_
  intro a ht
  refine wpl rfl rfl ht (ev_move ht rfl rfl) ?_
  intro a ht
  refine wpl rfl rfl ht (ev_not ht rfl rfl) ?_
  intro a ht
  refine wpl rfl rfl ht (ev_assign ht rfl rfl) ?_
  intro a ht
  refine wpl rfl rfl ht (ev_assign ht rfl rfl) ?_
  intro a ht
  refine wpList_nil ?_
  refine then_normal ?_
  refine wp_ret ?_
  have hres := ht.res (P := Try.prog) (w := w) (rs := [.tmp 4, .tmp 5]) (vs := [.slice A4 m6 c5, .bool !t3.1]) (.tmp rfl (.tmp rfl .nil))
  obtain rfl := Option.some.inj H
  exact leave ht rfl hres ⟨A4, c5, m6, rfl, ((hm.pick [1, 0] rfl (by decide)).pickφ [] rfl).post fun _ h => h⟩

/-! ### impl_FirstExtension: function 12 (loop.example/g01362/impl.FirstExtension) -/
def impl_FirstExtension.f (k : Nat) (x : Col) (sizes : List Int) : Option (List Int × Int) := (impl_Colouring_extendingCode__always.f k x sizes 12).bind fun t2 => if t2 ≠ 0 then (some (([] : List Int), t2)) else ((impl_Colouring_firstExtension.f k x sizes).bind fun t5 => if t5.2 = true then (some (t5.1, 0)) else (some (([] : List Int), 4)))
set_option maxRecDepth 100000 in
set_option maxHeartbeats 1000000 in
theorem impl_FirstExtension.calls (k : Nat) (X : List Nat) (w0 : World) (A : Option Addr) (c : Nat) (m : Nat) (x : Col) (sizes : List Int) (r : List Int × Int)
    (hp : Pre X w0 [] [IntsAt A c m sizes]) (H : impl_FirstExtension.f k x sizes = some r) :
    Calls Try.prog 12 [.agg (Col.cells x).toArray, .slice A m c].toArray w0 (Ret fun v w => ∃ (A_0 : Option Addr) (c_0 : Nat) (n_0 : Nat), v = .tuple [.slice A_0 n_0 c_0, .int .i64 r.2].toArray ∧ Post X (fps []) w0 [.vec A_0 c_0 2 1 n_0 (ints r.1)] [] w) := by
  unfold impl_FirstExtension.f at H
  refine enterM (n := 22) hp Try.func12 rfl rfl (Nat.le_of_ble_eq_true rfl) fun a w ht hm => ?_
  refine wp_seq ?_
  refine wpr ?_
  refine wpl_box rfl rfl ht hm rfl rfl rfl ?_
  intro b1 a ht w hm
  refine wpl rfl rfl ht (ev_assign ht rfl rfl) ?_
  intro a ht
  refine wpl rfl rfl ht (ev_assign ht rfl rfl) ?_
  intro a ht
  refine wpList_nil ?_
  refine then_normal ?_
  refine wp_seq ?_
  refine wp_seq ?_
  refine wpr ?_
  refine wpl rfl rfl ht (ev_move ht rfl rfl) ?_
  intro a ht
  obtain ⟨t2, et2, H⟩ := bind_get H
  have hcall := impl_Colouring_extendingCode__always.calls k _ _ b1 A c m x sizes 12 _ ((fun (hq : Ms _ _ _ ([.blk b1 28 (Col.cells x)] ++ []) _ _) => hq.lend (φp := [IntsAt A c m sizes]) (allRO_cons (hq.lendFact 0 rfl) (allRO_nil))) (hm.pick (own' := [.blk b1 28 (Col.cells x)] ++ []) [0] rfl (by decide))) et2
  refine wpl_call _ rfl rfl ht rfl rfl rfl rfl can_32 hcall ?_
  clear hcall
  rintro _ w ⟨rfl, hpost⟩ a ht
  replace hm := (hm.pick (own' := [.blk b1 28 (Col.cells x)] ++ []) [0] rfl (by decide)).backL hpost
  clear hpost
  refine wpl rfl rfl ht (ev_assign ht rfl rfl) ?_
  intro a ht
  refine wpList_nil ?_
  refine then_normal ?_
  refine wp_seq ?_
  refine wpr ?_
  refine wpl rfl rfl ht (ev_move ht rfl rfl) ?_
  intro a ht
  refine wpl rfl rfl ht (ev_cmp ht rfl rfl rfl rfl) ?_
  intro a ht
  refine wpList_nil ?_
  refine then_normal ?_
  by_cases h3 : t2 ≠ 0
  · replace H := ite_yes h3 H
    refine wpc_yes ht rfl (decide_eq_true h3) ?_
    refine wp_seq ?_
    refine wpr ?_
    refine wpl rfl rfl ht (ev_move ht rfl rfl) ?_
    intro a ht
    refine wpl rfl rfl ht (ev_assign ht rfl rfl) ?_
    intro a ht
    refine wpl rfl rfl ht (ev_assign ht rfl rfl) ?_
    intro a ht
    refine wpList_nil ?_
    refine then_normal ?_
    refine wp_ret ?_
    refine then_ret ?_
    have hres := ht.res (P := Try.prog) (w := w) (rs := [.tmp 4, .tmp 5]) (vs := [.slice none 0 0, .int .i64 t2]) (.tmp rfl (.tmp rfl .nil))
    replace hm : Ms _ _ _ (.vec none 0 2 1 0 (ints ([] : List Int)) :: _) _ w := hm.nilVec none 2 1
    obtain rfl := Option.some.inj H
    exact leave ht rfl hres ⟨none, 0, 0, rfl, ((hm.pick [0] rfl (by decide)).pickφ [] rfl).post fun _ h => h⟩
  · replace H := ite_no h3 H
    refine wpc_no ht rfl (decide_eq_false h3) ?_
    refine wp_skip ?_
    refine then_normal ?_
    refine wp_seq ?_
    refine wpr ?_
    refine wpl rfl rfl ht (ev_move ht rfl rfl) ?_
    intro a ht
    obtain ⟨t5, et5, H⟩ := bind_get H
    have hcall := impl_Colouring_firstExtension.calls k _ _ b1 A c m x sizes _ ((fun (hq : Ms _ _ _ ([.blk b1 28 (Col.cells x)] ++ []) _ _) => hq.lend (φp := [IntsAt A c m sizes]) (allRO_cons (hq.lendFact 0 rfl) (allRO_nil))) (hm.pick (own' := [.blk b1 28 (Col.cells x)] ++ []) [0] rfl (by decide))) et5
    refine wpl_call _ rfl rfl ht rfl rfl rfl rfl can_34 hcall ?_
    clear hcall
    rintro _ w ⟨A6, c7, m8, rfl, hpost⟩ a ht
    replace hm := (hm.pick (own' := [.blk b1 28 (Col.cells x)] ++ []) [0] rfl (by decide)).backL hpost
    clear hpost
    refine wpl rfl rfl ht (ev_move ht rfl rfl) ?_
    intro a ht
    refine wpl rfl rfl ht (ev_extract ht rfl rfl rfl) ?_
    intro a ht
    refine wpl rfl rfl ht (ev_extract ht rfl rfl rfl) ?_
    intro a ht
    refine wpl rfl rfl ht (ev_assign ht rfl rfl) ?_
    intro a ht
    refine wpl rfl rfl ht (ev_assign ht rfl rfl) ?_
    intro a ht
    refine wpList_nil ?_
    refine then_normal ?_
    refine wp_seq ?_
    refine wp_seq ?_
    refine wpr ?_
    refine wpl rfl rfl ht (ev_move ht rfl rfl) ?_
    intro a ht
    refine wpl rfl rfl ht (ev_not ht rfl rfl) ?_
    intro a ht
    refine wpList_nil ?_
    refine then_normal ?_
    by_cases h9 : t5.2 = true
    · replace H := ite_yes h9 H
      refine wpc_no ht rfl (not_t h9) ?_
      refine wp_skip ?_
      refine then_normal ?_
      refine wp_seq ?_
      refine wpr ?_
      refine wpl rfl rfl ht (ev_move ht rfl rfl) ?_
      intro a ht
      refine wpl rfl rfl ht (ev_assign ht rfl rfl) ?_
      intro a ht
      refine wpl rfl rfl ht (ev_assign ht rfl rfl) ?_
      intro a ht
      refine wpList_nil ?_
      refine then_normal ?_
      refine wp_ret ?_
      have hres := ht.res (P := Try.prog) (w := w) (rs := [.tmp 4, .tmp 5]) (vs := [.slice A6 m8 c7, .int .i64 0]) (.tmp rfl (.tmp rfl .nil))
      obtain rfl := Option.some.inj H
      exact leave ht rfl hres ⟨A6, c7, m8, rfl, ((hm.pick [0] rfl (by decide)).pickφ [] rfl).post fun _ h => h⟩
    · replace H := ite_no h9 H
      refine wpc_yes ht rfl (not_f (Bool.eq_false_iff.mpr h9)) ?_
      refine wp_seq ?_
      refine wpr ?_
      refine wpl rfl rfl ht (ev_assign ht rfl rfl) ?_
      intro a ht
      refine wpl rfl rfl ht (ev_assign ht rfl rfl) ?_
      intro a ht
      refine wpList_nil ?_
      refine then_normal ?_
      refine wp_ret ?_
      refine then_ret ?_
      have hres := ht.res (P := Try.prog) (w := w) (rs := [.tmp 4, .tmp 5]) (vs := [.slice none 0 0, .int .i64 4]) (.tmp rfl (.tmp rfl .nil))
      replace hm : Ms _ _ _ (.vec none 0 2 1 0 (ints ([] : List Int)) :: _) _ w := hm.nilVec none 2 1
      obtain rfl := Option.some.inj H
      exact leave ht rfl hres ⟨none, 0, 0, rfl, ((hm.pick [0] rfl (by decide)).pickφ [] rfl).post fun _ h => h⟩

/-! ### laws_eqInt64S: function 13 (loop.example/g01362/laws.eqInt64S) -/
def laws_eqInt64S.l0 : Nat → List Int → List Int → Int → Option (Bool)
  | 0, _, _, _ => none
  | q2 + 1, a_, b, xs0_1 => if xs0_1 < (a_.length : Int) then ((getI a_ xs0_1).bind fun t4 => (getI b xs0_1).bind fun t5 => if t4 ≠ t5 then (some false) else (laws_eqInt64S.l0 q2 a_ b (w64 (xs0_1 + 1)))) else (some true)
def laws_eqInt64S.f (k : Nat) (a_ : List Int) (b : List Int) : Option (Bool) := if (a_.length : Int) ≠ (b.length : Int) then (some false) else (laws_eqInt64S.l0 k a_ b 0)
set_option maxRecDepth 100000 in
set_option maxHeartbeats 1000000 in
theorem laws_eqInt64S.calls (k : Nat) (X : List Nat) (w0 : World) (A : Option Addr) (c : Nat) (m : Nat) (A2 : Option Addr) (c2 : Nat) (m2 : Nat) (a_ : List Int) (b : List Int) (r : Bool)
    (hp : Pre X w0 [] [IntsAt A c m a_, IntsAt A2 c2 m2 b]) (H : laws_eqInt64S.f k a_ b = some r) :
    Calls Try.prog 13 [.slice A m c, .slice A2 m2 c2].toArray w0 (Ret fun v w => v = .bool r ∧ Post X (fps []) w0 [] [] w) := by
  unfold laws_eqInt64S.f at H
  refine enterM (n := 26) hp Try.func13 rfl rfl (Nat.le_of_ble_eq_true rfl) fun a w ht hm => ?_
  refine wp_seq ?_
  refine wpr ?_
  refine wpl rfl rfl ht (ev_assign ht rfl rfl) ?_
  intro a ht
  refine wpList_nil ?_
  refine then_normal ?_
  refine wp_seq ?_
  refine wp_seq ?_
  refine wpr ?_
  refine wpl rfl rfl ht (ev_move ht rfl rfl) ?_
  intro a ht
  refine wpl rfl rfl ht (ev_len_of ht rfl rfl und_25 (hm.fact (φ := IntsAt A c m a_) 0 rfl)) ?_
  intro a ht
  refine wpl rfl rfl ht (ev_move ht rfl rfl) ?_
  intro a ht
  refine wpl rfl rfl ht (ev_len_of ht rfl rfl und_25 (hm.fact (φ := IntsAt A2 c2 m2 b) 1 rfl)) ?_
  intro a ht
  refine wpl rfl rfl ht (ev_cmp ht rfl rfl rfl rfl) ?_
  intro a ht
  refine wpList_nil ?_
  refine then_normal ?_
  by_cases h1 : (a_.length : Int) ≠ (b.length : Int)
  · replace H := ite_yes h1 H
    refine wpc_yes ht rfl (decide_eq_true h1) ?_
    refine wp_seq ?_
    refine wpr ?_
    refine wpl rfl rfl ht (ev_assign ht rfl rfl) ?_
    intro a ht
    refine wpList_nil ?_
    refine then_normal ?_
    refine wp_ret ?_
    refine then_ret ?_
    have hres := ht.res (P := Try.prog) (w := w) (rs := [.tmp 4]) (vs := [.bool false]) (.tmp rfl .nil)
    obtain rfl := Option.some.inj H
    exact leave ht rfl hres ⟨rfl, ((hm.pick [] rfl (by decide)).pickφ [] rfl).post fun _ h => h⟩
  · replace H := ite_no h1 H
    refine wpc_no ht rfl (decide_eq_false h1) ?_
    refine wp_skip ?_
    refine then_normal ?_
    refine wp_seq ?_
    refine wp_seq ?_
    refine wpr ?_
    refine wpl rfl rfl ht (ev_assign ht rfl rfl) ?_
    intro a ht
    refine wpList_nil ?_
    refine then_normal ?_
    refine wp_block ?_
    refine wpLoop (fun q a w => ∃ (xs0_1 : Int), laws_eqInt64S.l0 q a_ b xs0_1 = some r ∧ q ≤ k ∧ Tm 26 [(0, .slice A m c), (1, .slice A2 m2 c2), (4, .bool false), (5, .int .i64 xs0_1)] a ∧ Ms X (fps []) w0 [] [IntsAt A c m a_, IntsAt A2 c2 m2 b] w) (k0 := k) ⟨0, H, Nat.le_refl _, ht.sub ⟨rfl, rfl, rfl, rfl, trivial⟩, (hm.pick [] rfl (by decide)).pickφ [0, 1] rfl⟩ ?_
    clear H ht hm
    intro q2 a w hJ
    obtain ⟨xs0_1, H, hqq2, ht, hm⟩ := hJ
    cases q2 with
    | zero => cases H
    | succ q2 =>
    rw [laws_eqInt64S.l0] at H
    refine wp_seq ?_
    refine wp_seq ?_
    refine wpr ?_
    refine wpl rfl rfl ht (ev_move ht rfl rfl) ?_
    intro a ht
    refine wpl rfl rfl ht (ev_move ht rfl rfl) ?_
    intro a ht
    refine wpl rfl rfl ht (ev_len_of ht rfl rfl und_25 (hm.fact (φ := IntsAt A c m a_) 0 rfl)) ?_
    intro a ht
    refine wpl rfl rfl ht (ev_cmp ht rfl rfl rfl rfl) ?_
    intro a ht
    refine wpList_nil ?_
    refine then_normal ?_
    by_cases h3 : xs0_1 < (a_.length : Int)
    · replace H := ite_yes h3 H
      refine wpc_yes ht rfl (decide_eq_true h3) ?_
      refine wp_skip ?_
      refine then_normal ?_
      refine wp_seq ?_
      refine wp_block ?_
      refine wp_seq ?_
      refine wph_begin (fun w => Ms X (fps []) w0 [] [IntsAt A c m a_, IntsAt A2 c2 m2 b] w) mixed ?_
      replace hm := hm.drew
      have hS : Ms X (fps []) w0 [] [IntsAt A c m a_, IntsAt A2 c2 m2 b] w.drew := (hm.pick [] rfl (by decide)).pickφ [0, 1] rfl
      generalize w.drew = w at hm hS ⊢
      refine wph_take (i := 0) rfl (by kernel_rfl) (by kernel_rfl) (by kernel_rfl) (fun _ _ _ h => h) rfl ht hS (wanted_plain rfl) (fun w hm => ev_move ht rfl rfl) ?_
      intro a ht
      refine wph_take (i := 1) rfl (by kernel_rfl) (by kernel_rfl) (by kernel_rfl) (fun _ _ _ h => h) rfl ht hS (wanted_plain rfl) (fun w hm => ev_move ht rfl rfl) ?_
      intro a ht
      obtain ⟨t4, et4, H⟩ := bind_get H
      refine wph_take (i := 2) rfl (by kernel_rfl) (by kernel_rfl) (by kernel_rfl) (fun _ _ _ h => h) rfl ht hS (wanted_plain rfl) (fun w hm => ev_index_ints ht rfl rfl rfl so_25 (hm.fact (φ := IntsAt A c m a_) 0 rfl) et4) ?_
      intro a ht
      refine wph_take (i := 3) rfl (by kernel_rfl) (by kernel_rfl) (by kernel_rfl) (fun _ _ _ h => h) rfl ht hS (wanted_plain rfl) (fun w hm => ev_load ht rfl rfl sc_2 (RowAt.cell (hm.fact (φ := IntsAt A c m a_) 0 rfl) (ints_get et4) rfl)) ?_
      intro a ht
      refine wph_take (i := 4) rfl (by kernel_rfl) (by kernel_rfl) (by kernel_rfl) (fun _ _ _ h => h) rfl ht hS (wanted_plain rfl) (fun w hm => ev_move ht rfl rfl) ?_
      intro a ht
      refine wph_take (i := 5) rfl (by kernel_rfl) (by kernel_rfl) (by kernel_rfl) (fun _ _ _ h => h) rfl ht hS (wanted_plain rfl) (fun w hm => ev_move ht rfl rfl) ?_
      intro a ht
      obtain ⟨t5, et5, H⟩ := bind_get H
      refine wph_take (i := 6) rfl (by kernel_rfl) (by kernel_rfl) (by kernel_rfl) (fun _ _ _ h => h) rfl ht hS (wanted_plain rfl) (fun w hm => ev_index_ints ht rfl rfl rfl so_25 (hm.fact (φ := IntsAt A2 c2 m2 b) 1 rfl) et5) ?_
      intro a ht
      refine wph_take (i := 7) rfl (by kernel_rfl) (by kernel_rfl) (by kernel_rfl) (fun _ _ _ h => h) rfl ht hS (wanted_plain rfl) (fun w hm => ev_load ht rfl rfl sc_2 (RowAt.cell (hm.fact (φ := IntsAt A2 c2 m2 b) 1 rfl) (ints_get et5) rfl)) ?_
      intro a ht
      refine wph_take (i := 8) rfl (by kernel_rfl) (by kernel_rfl) (by kernel_rfl) (fun _ _ _ h => h) rfl ht hS (wanted_plain rfl) (fun w hm => ev_cmp ht rfl rfl rfl rfl) ?_
      intro a ht
      refine wph_done (by kernel_rfl) ?_
      refine then_normal ?_
      by_cases h6 : t4 ≠ t5
      · replace H := ite_yes h6 H
        refine wpc_yes ht rfl (decide_eq_true h6) ?_
        refine wp_seq ?_
        refine wpr ?_
        refine wpl rfl rfl ht (ev_assign ht rfl rfl) ?_
        intro a ht
        refine wpList_nil ?_
        refine then_normal ?_
        refine wp_ret ?_
        refine blk_ret ?_
        refine then_ret ?_
        refine then_ret ?_
        refine blk_ret ?_
        refine then_ret ?_
        have hres := ht.res (P := Try.prog) (w := w) (rs := [.tmp 4]) (vs := [.bool false]) (.tmp rfl .nil)
        obtain rfl := Option.some.inj H
        exact leave ht rfl hres ⟨rfl, ((hm.pick [] rfl (by decide)).pickφ [] rfl).post fun _ h => h⟩
      · replace H := ite_no h6 H
        refine wpc_no ht rfl (decide_eq_false h6) ?_
        refine wp_skip ?_
        refine blk_normal ?_
        refine then_normal ?_
        refine wpr ?_
        refine wpl rfl rfl ht (ev_move ht rfl rfl) ?_
        intro a ht
        refine wpl rfl rfl ht (ev_arith ht rfl rfl rfl rfl) ?_
        intro a ht
        refine wpl rfl rfl ht (ev_assign ht rfl rfl) ?_
        intro a ht
        refine wpList_nil ?_
        exact then_normal ⟨q2, by omega, (w64 (xs0_1 + 1)), H, by omega, ht.sub ⟨rfl, rfl, rfl, rfl, trivial⟩, (hm.pick [] rfl (by decide)).pickφ [0, 1] rfl⟩
    · replace H := ite_no h3 H
      refine wpc_no ht rfl (decide_eq_false h3) ?_
      refine wp_exit ?_
      refine then_exit ?_
      refine then_exit ?_
      refine blk_hit ?_
      refine then_normal ?_
      refine wp_seq ?_
      refine wpr ?_
      refine wpl rfl rfl ht (ev_assign ht rfl rfl) ?_
      intro a ht
      refine wpList_nil ?_
      refine then_normal ?_
      refine wp_ret ?_
      have hres := ht.res (P := Try.prog) (w := w) (rs := [.tmp 4]) (vs := [.bool true]) (.tmp rfl .nil)
      obtain rfl := Option.some.inj H
      exact leave ht rfl hres ⟨rfl, ((hm.pick [] rfl (by decide)).pickφ [] rfl).post fun _ h => h⟩

end Go.Proofs.Ytocjhmeekecdiaa.G
