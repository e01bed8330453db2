/- What each Go function computes, as a Lean function, and the proof that it does: written by a program of this session (wip/gen), part 5. -/
import Derived.Test.YtdpamdedomkomaaGFnExactCliquesAt4
namespace Go.Proofs.Ytdpamdedomkomaa.G
open Go Go.RowKit Go.Proofs.Ytdpamdedomkomaa.K
set_option linter.unusedVariables false
set_option linter.unusedSimpArgs false

/-! ### impl_Colouring_cliques__Colouring_countThat_1__CliquesAt_2: function 104 ((*loop.example/g01362/impl.Colouring).cliques) -/
mutual
def impl_Colouring_cliques__Colouring_countThat_1__CliquesAt_2.l0 : Nat → Col → Int → List Int → Int → Int → Int → Int → Option (Bool × Int)
  | 0, _, _, _, _, _, _, _ => none
  | q5 + 1, x, c, list, with_, with_2, xs0_1, xs0_2 => if xs0_2 < x.p then ((impl_Colouring_goesWith.f q5 x c list xs0_2).bind fun t7 => if t7 = true then ((slices_Clone_int64_int64.f list).bind fun t9 => (push t9 xs0_2).bind fun l17 => (impl_Colouring_cliques__Colouring_countThat_1__CliquesAt_2.f q5 x c l17 with_ with_2 xs0_1).bind fun t18 => if t18.1 = true then (impl_Colouring_cliques__Colouring_countThat_1__CliquesAt_2.l0 q5 x c list with_ with_2 t18.2 (w64 (xs0_2 + 1))) else (some (false, t18.2))) else (impl_Colouring_cliques__Colouring_countThat_1__CliquesAt_2.l0 q5 x c list with_ with_2 xs0_1 (w64 (xs0_2 + 1)))) else (some (true, xs0_1))
def impl_Colouring_cliques__Colouring_countThat_1__CliquesAt_2.l1 : Nat → Col → Int → List Int → Int → Int → Int → Int → Option (Bool × Int)
  | 0, _, _, _, _, _, _, _ => none
  | q20 + 1, x, c, list, with_, with_2, xs1_1, xs1_2 => if xs1_2 < x.p then ((impl_Colouring_goesWith.f q20 x c list xs1_2).bind fun t22 => if t22 = true then ((slices_Clone_int64_int64.f list).bind fun t24 => (push t24 xs1_2).bind fun l32 => (impl_Colouring_cliques__Colouring_countThat_1__CliquesAt_2.f q20 x c l32 with_ with_2 xs1_1).bind fun t33 => if t33.1 = true then (impl_Colouring_cliques__Colouring_countThat_1__CliquesAt_2.l1 q20 x c list with_ with_2 t33.2 (w64 (xs1_2 + 1))) else (some (false, t33.2))) else (impl_Colouring_cliques__Colouring_countThat_1__CliquesAt_2.l1 q20 x c list with_ with_2 xs1_1 (w64 (xs1_2 + 1)))) else (some (true, xs1_1))
def impl_Colouring_cliques__Colouring_countThat_1__CliquesAt_2.f : Nat → Col → Int → List Int → Int → Int → Int → Option (Bool × Int)
  | 0, _, _, _, _, _, _ => none
  | k + 1, x, c, list, with_, with_2, with_3 => (impl_Colouring_countThat_1__CliquesAt_2.f k list with_ with_2 with_3).bind fun t1 => if t1.1 = true then (if (list.length : Int) > 0 then ((getI list (w64 ((list.length : Int) - 1))).bind fun t4 => impl_Colouring_cliques__Colouring_countThat_1__CliquesAt_2.l0 k x c list with_ with_2 t1.2 (w64 (t4 + 1))) else (impl_Colouring_cliques__Colouring_countThat_1__CliquesAt_2.l1 k x c list with_ with_2 t1.2 0)) else (some (false, t1.2))
end
set_option maxRecDepth 100000 in
set_option maxHeartbeats 1000000 in
theorem impl_Colouring_cliques__Colouring_countThat_1__CliquesAt_2.calls (k : Nat) (X : List Nat) (w0 : World) (b : Nat) (A : Option Addr) (c2 : Nat) (m : Nat) (b2 : Nat) (b3 : Nat) (b4 : Nat) (b5 : Nat) (x : Col) (c : Int) (list : List Int) (with_ : Int) (with_2 : Int) (with_3 : Int) (r : Bool × Int)
    (hp : Pre X w0 [.blk b 28 (Col.cells x), .blk b2 2 [.int .i64 with_], .blk b3 62 [.func (.func 66) [].toArray [.pointer (some ⟨b4, 0, none⟩)].toArray], .blk b4 2 [.int .i64 with_2], .blk b5 2 [.int .i64 with_3]] [IntsAt A c2 m list]) (H : impl_Colouring_cliques__Colouring_countThat_1__CliquesAt_2.f k x c list with_ with_2 with_3 = some r) :
    Calls Try.prog 104 [.pointer (some ⟨b, 0, none⟩), .int .i64 c, .slice A m c2, .func (.func 105) [].toArray [.pointer (some ⟨b2, 0, none⟩), .pointer (some ⟨b3, 0, none⟩), .pointer (some ⟨b5, 0, none⟩)].toArray].toArray w0 (Ret fun v w => v = .bool r.1 ∧ Post X (fps [.blk b 28 (Col.cells x), .blk b2 2 [.int .i64 with_], .blk b3 62 [.func (.func 66) [].toArray [.pointer (some ⟨b4, 0, none⟩)].toArray], .blk b4 2 [.int .i64 with_2], .blk b5 2 [.int .i64 with_3]]) w0 [.blk b 28 (Col.cells x), .blk b2 2 [.int .i64 with_], .blk b3 62 [.func (.func 66) [].toArray [.pointer (some ⟨b4, 0, none⟩)].toArray], .blk b4 2 [.int .i64 with_2], .blk b5 2 [.int .i64 r.2]] [] w) := by
  induction k using Nat.strongRecOn generalizing X w0 b A c2 m b2 b3 b4 b5 x c list with_ with_2 with_3 r with
  | _ k ih =>
  cases k with
  | zero => cases H
  | succ k =>
  rw [impl_Colouring_cliques__Colouring_countThat_1__CliquesAt_2.f] at H
  refine enterM (n := 51) hp Try.func104 rfl rfl (Nat.le_of_ble_eq_true rfl) fun a w ht hm => ?_
  induction k using Nat.strongRecOn with
  | _ k ih =>
  refine wp_seq ?_
  refine wpr ?_
  refine wpl rfl rfl ht (ev_assign ht rfl rfl) ?_
  intro a ht
  refine wpList_nil ?_
  refine then_normal ?_
  refine wp_seq ?_
  refine wp_seq ?_
  refine wpr ?_
  refine wpl rfl rfl ht (ev_move ht rfl rfl) ?_
  intro a ht
  refine wpl rfl rfl ht (ev_move ht rfl rfl) ?_
  intro a ht
  obtain ⟨t1, et1, H⟩ := bind_get H
  have hcall := impl_Colouring_countThat_1__CliquesAt_2.calls k _ _ A c2 m b2 b3 b4 b5 list with_ with_2 with_3 _ ((fun (hq : Ms _ _ _ ([.blk b2 2 [.int .i64 with_], .blk b3 62 [.func (.func 66) [].toArray [.pointer (some ⟨b4, 0, none⟩)].toArray], .blk b4 2 [.int .i64 with_2], .blk b5 2 [.int .i64 with_3]] ++ [.blk b 28 (Col.cells x)]) _ _) => hq.lend (φp := [IntsAt A c2 m list]) (allRO_cons (hq.lendFact 0 rfl) (allRO_nil))) (hm.pick (own' := [.blk b2 2 [.int .i64 with_], .blk b3 62 [.func (.func 66) [].toArray [.pointer (some ⟨b4, 0, none⟩)].toArray], .blk b4 2 [.int .i64 with_2], .blk b5 2 [.int .i64 with_3]] ++ [.blk b 28 (Col.cells x)]) [1, 2, 3, 4, 0] rfl (by decide))) et1
  refine wpl_call _ rfl rfl ht rfl rfl rfl rfl can_105 hcall ?_
  clear hcall
  rintro _ w ⟨rfl, hpost⟩ a ht
  replace hm := (hm.pick (own' := [.blk b2 2 [.int .i64 with_], .blk b3 62 [.func (.func 66) [].toArray [.pointer (some ⟨b4, 0, none⟩)].toArray], .blk b4 2 [.int .i64 with_2], .blk b5 2 [.int .i64 with_3]] ++ [.blk b 28 (Col.cells x)]) [1, 2, 3, 4, 0] rfl (by decide)).backL hpost
  clear hpost
  refine wpl rfl rfl ht (ev_not ht rfl rfl) ?_
  intro a ht
  refine wpList_nil ?_
  refine then_normal ?_
  by_cases h2 : t1.1 = true
  · replace H := ite_yes h2 H
    refine wpc_no ht rfl (not_t h2) ?_
    refine wp_skip ?_
    refine then_normal ?_
    refine wp_seq ?_
    refine wpr ?_
    refine wpl rfl rfl ht (ev_assign ht rfl rfl) ?_
    intro a ht
    refine wpList_nil ?_
    refine then_normal ?_
    refine wp_seq ?_
    refine wp_seq ?_
    refine wpr ?_
    refine wpl rfl rfl ht (ev_move ht rfl rfl) ?_
    intro a ht
    refine wpl rfl rfl ht (ev_len_of ht rfl rfl und_25 (hm.fact (φ := IntsAt A c2 m list) 0 rfl)) ?_
    intro a ht
    refine wpl rfl rfl ht (ev_cmp ht rfl rfl rfl rfl) ?_
    intro a ht
    refine wpList_nil ?_
    refine then_normal ?_
    by_cases h3 : (list.length : Int) > 0
    · replace H := ite_yes h3 H
      refine wpc_yes ht rfl (decide_eq_true h3) ?_
      refine wpr ?_
      refine wpl rfl rfl ht (ev_move ht rfl rfl) ?_
      intro a ht
      refine wpl rfl rfl ht (ev_move ht rfl rfl) ?_
      intro a ht
      refine wpl rfl rfl ht (ev_len_of ht rfl rfl und_25 (hm.fact (φ := IntsAt A c2 m list) 0 rfl)) ?_
      intro a ht
      refine wpl rfl rfl ht (ev_arith ht rfl rfl rfl rfl) ?_
      intro a ht
      obtain ⟨t4, et4, H⟩ := bind_get H
      refine wpl rfl rfl ht (ev_index_ints ht rfl rfl rfl so_25 (hm.fact (φ := IntsAt A c2 m list) 0 rfl) et4) ?_
      intro a ht
      refine wpl rfl rfl ht (ev_load ht rfl rfl sc_2 (RowAt.cell (hm.fact (φ := IntsAt A c2 m list) 0 rfl) (ints_get et4) rfl)) ?_
      intro a ht
      refine wpl rfl rfl ht (ev_arith ht rfl rfl rfl rfl) ?_
      intro a ht
      refine wpl rfl rfl ht (ev_assign ht rfl rfl) ?_
      intro a ht
      refine wpList_nil ?_
      refine then_normal ?_
      refine wp_seq ?_
      refine wp_seq ?_
      refine wpr ?_
      refine wpl rfl rfl ht (ev_move ht rfl rfl) ?_
      intro a ht
      refine wpl rfl rfl ht (ev_assign ht rfl rfl) ?_
      intro a ht
      refine wpList_nil ?_
      refine then_normal ?_
      refine wp_block ?_
      refine wpLoop (fun q a w => ∃ (xs0_1 : Int) (xs0_2 : Int), impl_Colouring_cliques__Colouring_countThat_1__CliquesAt_2.l0 q x c list with_ with_2 xs0_1 xs0_2 = some r ∧ q ≤ k ∧ Tm 51 [(0, .pointer (some ⟨b, 0, none⟩)), (1, .int .i64 c), (2, .slice A m c2), (3, .func (.func 105) [].toArray [.pointer (some ⟨b2, 0, none⟩), .pointer (some ⟨b3, 0, none⟩), .pointer (some ⟨b5, 0, none⟩)].toArray), (8, .bool false), (10, .int .i64 xs0_2)] a ∧ Ms X (fps [.blk b 28 (Col.cells x), .blk b2 2 [.int .i64 with_], .blk b3 62 [.func (.func 66) [].toArray [.pointer (some ⟨b4, 0, none⟩)].toArray], .blk b4 2 [.int .i64 with_2], .blk b5 2 [.int .i64 with_3]]) w0 [.blk b2 2 [.int .i64 with_], .blk b3 62 [.func (.func 66) [].toArray [.pointer (some ⟨b4, 0, none⟩)].toArray], .blk b4 2 [.int .i64 with_2], .blk b5 2 [.int .i64 xs0_1], .blk b 28 (Col.cells x)] [IntsAt A c2 m list] w) (k0 := k) ⟨t1.2, (w64 (t4 + 1)), H, Nat.le_refl _, ht.sub ⟨rfl, rfl, rfl, rfl, rfl, rfl, trivial⟩, (hm.pick [0, 1, 2, 3, 4] rfl (by decide)).pickφ [0] rfl⟩ ?_
      clear H ht hm
      intro q5 a w hJ
      obtain ⟨xs0_1, xs0_2, H, hqq5, ht, hm⟩ := hJ
      cases q5 with
      | zero => cases H
      | succ q5 =>
      rw [impl_Colouring_cliques__Colouring_countThat_1__CliquesAt_2.l0] at H
      refine wp_seq ?_
      refine wp_seq ?_
      refine wpr ?_
      refine wpl rfl rfl ht (ev_move ht rfl rfl) ?_
      intro a ht
      refine wpl rfl rfl ht (ev_move ht rfl rfl) ?_
      intro a ht
      refine wpl rfl rfl ht (ev_nilCheck ht rfl rfl) ?_
      intro a ht
      refine wpl rfl rfl ht (ev_fieldAddr ht rfl rfl fo_28_0) ?_
      intro a ht
      refine wpl rfl rfl ht (ev_load ht rfl rfl sc_2 (hm.blk_cell 4 rfl rfl)) ?_
      intro a ht
      refine wpl rfl rfl ht (ev_cmp ht rfl rfl rfl rfl) ?_
      intro a ht
      refine wpList_nil ?_
      refine then_normal ?_
      by_cases h6 : xs0_2 < x.p
      · replace H := ite_yes h6 H
        refine wpc_yes ht rfl (decide_eq_true h6) ?_
        refine wp_skip ?_
        refine then_normal ?_
        refine wp_seq ?_
        refine wp_block ?_
        refine wp_seq ?_
        refine wpr ?_
        refine wpl rfl rfl ht (ev_move ht rfl rfl) ?_
        intro a ht
        refine wpl rfl rfl ht (ev_move ht rfl rfl) ?_
        intro a ht
        refine wpl rfl rfl ht (ev_move ht rfl rfl) ?_
        intro a ht
        refine wpl rfl rfl ht (ev_move ht rfl rfl) ?_
        intro a ht
        obtain ⟨t7, et7, H⟩ := bind_get H
        have hcall := impl_Colouring_goesWith.calls q5 _ _ b A c2 m x c list xs0_2 _ ((fun (hq : Ms _ _ _ ([.blk b 28 (Col.cells x)] ++ [.blk b2 2 [.int .i64 with_], .blk b3 62 [.func (.func 66) [].toArray [.pointer (some ⟨b4, 0, none⟩)].toArray], .blk b4 2 [.int .i64 with_2], .blk b5 2 [.int .i64 xs0_1]]) _ _) => hq.lend (φp := [IntsAt A c2 m list]) (allRO_cons (hq.lendFact 0 rfl) (allRO_nil))) (hm.pick (own' := [.blk b 28 (Col.cells x)] ++ [.blk b2 2 [.int .i64 with_], .blk b3 62 [.func (.func 66) [].toArray [.pointer (some ⟨b4, 0, none⟩)].toArray], .blk b4 2 [.int .i64 with_2], .blk b5 2 [.int .i64 xs0_1]]) [4, 0, 1, 2, 3] rfl (by decide))) et7
        refine wpl_call _ rfl rfl ht rfl rfl rfl rfl can_98 hcall ?_
        clear hcall
        rintro _ w ⟨rfl, hpost⟩ a ht
        replace hm := (hm.pick (own' := [.blk b 28 (Col.cells x)] ++ [.blk b2 2 [.int .i64 with_], .blk b3 62 [.func (.func 66) [].toArray [.pointer (some ⟨b4, 0, none⟩)].toArray], .blk b4 2 [.int .i64 with_2], .blk b5 2 [.int .i64 xs0_1]]) [4, 0, 1, 2, 3] rfl (by decide)).backL hpost
        clear hpost
        refine wpl rfl rfl ht (ev_move ht rfl rfl) ?_
        intro a ht
        by_cases h8 : t7 = true
        · replace H := ite_yes h8 H
          refine wpl_yes rfl ht rfl (h8) ?_
          refine wpl rfl rfl ht (ev_move ht rfl rfl) ?_
          intro a ht
          refine wpl_yes rfl ht rfl (h8) ?_
          refine wpl rfl rfl ht (ev_move ht rfl rfl) ?_
          intro a ht
          refine wpl_yes rfl ht rfl (h8) ?_
          refine wpl rfl rfl ht (ev_move ht rfl rfl) ?_
          intro a ht
          refine wpl_yes rfl ht rfl (h8) ?_
          obtain ⟨t9, et9, H⟩ := bind_get H
          have hcall := slices_Clone_int64_int64.calls _ _ A c2 m list _ ((fun (hq : Ms _ _ _ ([] ++ [.blk b 28 (Col.cells x), .blk b2 2 [.int .i64 with_], .blk b3 62 [.func (.func 66) [].toArray [.pointer (some ⟨b4, 0, none⟩)].toArray], .blk b4 2 [.int .i64 with_2], .blk b5 2 [.int .i64 xs0_1]]) _ _) => hq.lend (φp := [IntsAt A c2 m list]) (allRO_cons (hq.lendFact 0 rfl) (allRO_nil))) (hm.pick (own' := [] ++ [.blk b 28 (Col.cells x), .blk b2 2 [.int .i64 with_], .blk b3 62 [.func (.func 66) [].toArray [.pointer (some ⟨b4, 0, none⟩)].toArray], .blk b4 2 [.int .i64 with_2], .blk b5 2 [.int .i64 xs0_1]]) [0, 1, 2, 3, 4] rfl (by decide))) et9
          refine wpl_call _ rfl rfl ht rfl rfl rfl rfl can_123 hcall ?_
          clear hcall
          rintro _ w ⟨A10, c11, m12, rfl, hpost⟩ a ht
          replace hm := (hm.pick (own' := [] ++ [.blk b 28 (Col.cells x), .blk b2 2 [.int .i64 with_], .blk b3 62 [.func (.func 66) [].toArray [.pointer (some ⟨b4, 0, none⟩)].toArray], .blk b4 2 [.int .i64 with_2], .blk b5 2 [.int .i64 xs0_1]]) [0, 1, 2, 3, 4] rfl (by decide)).backL hpost
          clear hpost
          refine wpl_yes rfl ht rfl (h8) ?_
          refine wpl rfl rfl ht (ev_move ht rfl rfl) ?_
          intro a ht
          refine wpl_yes rfl ht rfl (h8) ?_
          refine wpl_build_ints (l := [xs0_2]) rfl rfl ht hm rfl und_25 zo_2 sz1_2 (by decide) rfl rfl rfl ?_
          intro A13 a ht w hm
          refine wpl_yes rfl ht rfl (h8) ?_
          obtain ⟨l17, el17, H⟩ := bind_get H
          refine wpl_push (r := l17) 1 0 rfl rfl ht hm rfl ap_25 rfl rfl rfl rfl el17 ?_
          intro A14 c15 m16 a ht w hm
          refine wpl_yes rfl ht rfl (h8) ?_
          refine wpl rfl rfl ht (ev_move ht rfl rfl) ?_
          intro a ht
          refine wpl_yes rfl ht rfl (h8) ?_
          obtain ⟨t18, et18, H⟩ := bind_get H
          have hcall := ih q5 (by omega) _ _ b A14 c15 m16 b2 b3 b4 b5 x c l17 with_ with_2 xs0_1 _ ((fun (hq : Ms _ _ _ ([.blk b 28 (Col.cells x), .blk b2 2 [.int .i64 with_], .blk b3 62 [.func (.func 66) [].toArray [.pointer (some ⟨b4, 0, none⟩)].toArray], .blk b4 2 [.int .i64 with_2], .blk b5 2 [.int .i64 xs0_1]] ++ [.vec A13 1 2 1 1 (ints ([xs0_2])), .vec A14 c15 2 1 m16 (ints l17)]) _ _) => hq.lend (φp := [IntsAt A14 c15 m16 l17]) (allRO_cons (hq.lendVec 1 rfl) (allRO_nil))) (hm.pick (own' := [.blk b 28 (Col.cells x), .blk b2 2 [.int .i64 with_], .blk b3 62 [.func (.func 66) [].toArray [.pointer (some ⟨b4, 0, none⟩)].toArray], .blk b4 2 [.int .i64 with_2], .blk b5 2 [.int .i64 xs0_1]] ++ [.vec A13 1 2 1 1 (ints ([xs0_2])), .vec A14 c15 2 1 m16 (ints l17)]) [2, 3, 4, 5, 6, 0, 1] rfl (by decide))) et18
          refine wpl_call _ rfl rfl ht rfl rfl rfl rfl can_104 hcall ?_
          clear hcall
          rintro _ w ⟨rfl, hpost⟩ a ht
          replace hm := (hm.pick (own' := [.blk b 28 (Col.cells x), .blk b2 2 [.int .i64 with_], .blk b3 62 [.func (.func 66) [].toArray [.pointer (some ⟨b4, 0, none⟩)].toArray], .blk b4 2 [.int .i64 with_2], .blk b5 2 [.int .i64 xs0_1]] ++ [.vec A13 1 2 1 1 (ints ([xs0_2])), .vec A14 c15 2 1 m16 (ints l17)]) [2, 3, 4, 5, 6, 0, 1] rfl (by decide)).backL hpost
          clear hpost
          refine wpl_yes rfl ht rfl (h8) ?_
          refine wpl rfl rfl ht (ev_not ht rfl rfl) ?_
          intro a ht
          refine wpl rfl rfl ht (ev_pick_yes ht rfl rfl h8 rfl) ?_
          intro a ht
          refine wpList_nil ?_
          refine then_normal ?_
          by_cases h19 : t18.1 = true
          · replace H := ite_yes h19 H
            refine wpc_no ht rfl (not_t h19) ?_
            refine wp_skip ?_
            refine blk_normal ?_
            refine then_normal ?_
            refine wpr ?_
            refine wpl rfl rfl ht (ev_move ht rfl rfl) ?_
            intro a ht
            refine wpl rfl rfl ht (ev_arith ht rfl rfl rfl rfl) ?_
            intro a ht
            refine wpl rfl rfl ht (ev_assign ht rfl rfl) ?_
            intro a ht
            refine wpList_nil ?_
            exact then_normal ⟨q5, by omega, t18.2, (w64 (xs0_2 + 1)), H, by omega, ht.sub ⟨rfl, rfl, rfl, rfl, rfl, rfl, trivial⟩, (hm.pick [1, 2, 3, 4, 0] rfl (by decide)).pickφ [0] rfl⟩
          · replace H := ite_no h19 H
            refine wpc_yes ht rfl (not_f (Bool.eq_false_iff.mpr h19)) ?_
            refine wp_seq ?_
            refine wpr ?_
            refine wpl rfl rfl ht (ev_assign ht rfl rfl) ?_
            intro a ht
            refine wpList_nil ?_
            refine then_normal ?_
            refine wp_ret ?_
            refine blk_ret ?_
            refine then_ret ?_
            refine then_ret ?_
            refine blk_ret ?_
            refine then_ret ?_
            have hres := ht.res (P := Try.prog) (w := w) (rs := [.tmp 8]) (vs := [.bool false]) (.tmp rfl .nil)
            obtain rfl := Option.some.inj H
            exact leave ht rfl hres ⟨rfl, ((hm.pick [0, 1, 2, 3, 4] rfl (by decide)).pickφ [] rfl).post fun _ h => h⟩
        · replace H := ite_no h8 H
          refine wpl_no rfl rfl ht rfl (by rw [(Bool.eq_false_iff.mpr h8)]; decide) ?_
          intro a ht
          refine wpl_no rfl rfl ht rfl (by rw [(Bool.eq_false_iff.mpr h8)]; decide) ?_
          intro a ht
          refine wpl_no rfl rfl ht rfl (by rw [(Bool.eq_false_iff.mpr h8)]; decide) ?_
          intro a ht
          refine wpl_no rfl rfl ht rfl (by rw [(Bool.eq_false_iff.mpr h8)]; decide) ?_
          intro a ht
          refine wpl_no rfl rfl ht rfl (by rw [(Bool.eq_false_iff.mpr h8)]; decide) ?_
          intro a ht
          refine wpl_no rfl rfl ht rfl (by rw [(Bool.eq_false_iff.mpr h8)]; decide) ?_
          intro a ht
          refine wpl_no rfl rfl ht rfl (by rw [(Bool.eq_false_iff.mpr h8)]; decide) ?_
          intro a ht
          refine wpl_no rfl rfl ht rfl (by rw [(Bool.eq_false_iff.mpr h8)]; decide) ?_
          intro a ht
          refine wpl_no rfl rfl ht rfl (by rw [(Bool.eq_false_iff.mpr h8)]; decide) ?_
          intro a ht
          refine wpl_no rfl rfl ht rfl (by rw [(Bool.eq_false_iff.mpr h8)]; decide) ?_
          intro a ht
          refine wpl rfl rfl ht (ev_pick_no ht rfl rfl (Bool.eq_false_iff.mpr h8) rfl) ?_
          intro a ht
          refine wpList_nil ?_
          refine then_normal ?_
          refine wpc_no ht rfl rfl ?_
          refine wp_skip ?_
          refine blk_normal ?_
          refine then_normal ?_
          refine wpr ?_
          refine wpl rfl rfl ht (ev_move ht rfl rfl) ?_
          intro a ht
          refine wpl rfl rfl ht (ev_arith ht rfl rfl rfl rfl) ?_
          intro a ht
          refine wpl rfl rfl ht (ev_assign ht rfl rfl) ?_
          intro a ht
          refine wpList_nil ?_
          exact then_normal ⟨q5, by omega, xs0_1, (w64 (xs0_2 + 1)), H, by omega, ht.sub ⟨rfl, rfl, rfl, rfl, rfl, rfl, trivial⟩, (hm.pick [1, 2, 3, 4, 0] rfl (by decide)).pickφ [0] rfl⟩
      · replace H := ite_no h6 H
        refine wpc_no ht rfl (decide_eq_false h6) ?_
        refine wp_exit ?_
        refine then_exit ?_
        refine then_exit ?_
        refine blk_hit ?_
        refine then_normal ?_
        refine wp_seq ?_
        refine wpr ?_
        refine wpl rfl rfl ht (ev_assign ht rfl rfl) ?_
        intro a ht
        refine wpList_nil ?_
        refine then_normal ?_
        refine wp_ret ?_
        have hres := ht.res (P := Try.prog) (w := w) (rs := [.tmp 8]) (vs := [.bool true]) (.tmp rfl .nil)
        obtain rfl := Option.some.inj H
        exact leave ht rfl hres ⟨rfl, ((hm.pick [4, 0, 1, 2, 3] rfl (by decide)).pickφ [] rfl).post fun _ h => h⟩
    · replace H := ite_no h3 H
      refine wpc_no ht rfl (decide_eq_false h3) ?_
      refine wp_skip ?_
      refine then_normal ?_
      refine wp_seq ?_
      refine wp_seq ?_
      refine wpr ?_
      refine wpl rfl rfl ht (ev_move ht rfl rfl) ?_
      intro a ht
      refine wpl rfl rfl ht (ev_assign ht rfl rfl) ?_
      intro a ht
      refine wpList_nil ?_
      refine then_normal ?_
      refine wp_block ?_
      refine wpLoop (fun q a w => ∃ (xs1_1 : Int) (xs1_2 : Int), impl_Colouring_cliques__Colouring_countThat_1__CliquesAt_2.l1 q x c list with_ with_2 xs1_1 xs1_2 = some r ∧ q ≤ k ∧ Tm 51 [(0, .pointer (some ⟨b, 0, none⟩)), (1, .int .i64 c), (2, .slice A m c2), (3, .func (.func 105) [].toArray [.pointer (some ⟨b2, 0, none⟩), .pointer (some ⟨b3, 0, none⟩), .pointer (some ⟨b5, 0, none⟩)].toArray), (8, .bool false), (10, .int .i64 xs1_2)] a ∧ Ms X (fps [.blk b 28 (Col.cells x), .blk b2 2 [.int .i64 with_], .blk b3 62 [.func (.func 66) [].toArray [.pointer (some ⟨b4, 0, none⟩)].toArray], .blk b4 2 [.int .i64 with_2], .blk b5 2 [.int .i64 with_3]]) w0 [.blk b2 2 [.int .i64 with_], .blk b3 62 [.func (.func 66) [].toArray [.pointer (some ⟨b4, 0, none⟩)].toArray], .blk b4 2 [.int .i64 with_2], .blk b5 2 [.int .i64 xs1_1], .blk b 28 (Col.cells x)] [IntsAt A c2 m list] w) (k0 := k) ⟨t1.2, 0, H, Nat.le_refl _, ht.sub ⟨rfl, rfl, rfl, rfl, rfl, rfl, trivial⟩, (hm.pick [0, 1, 2, 3, 4] rfl (by decide)).pickφ [0] rfl⟩ ?_
      clear H ht hm
      intro q20 a w hJ
      obtain ⟨xs1_1, xs1_2, H, hqq20, ht, hm⟩ := hJ
      cases q20 with
      | zero => cases H
      | succ q20 =>
      rw [impl_Colouring_cliques__Colouring_countThat_1__CliquesAt_2.l1] at H
      refine wp_seq ?_
      refine wp_seq ?_
      refine wpr ?_
      refine wpl rfl rfl ht (ev_move ht rfl rfl) ?_
      intro a ht
      refine wpl rfl rfl ht (ev_move ht rfl rfl) ?_
      intro a ht
      refine wpl rfl rfl ht (ev_nilCheck ht rfl rfl) ?_
      intro a ht
      refine wpl rfl rfl ht (ev_fieldAddr ht rfl rfl fo_28_0) ?_
      intro a ht
      refine wpl rfl rfl ht (ev_load ht rfl rfl sc_2 (hm.blk_cell 4 rfl rfl)) ?_
      intro a ht
      refine wpl rfl rfl ht (ev_cmp ht rfl rfl rfl rfl) ?_
      intro a ht
      refine wpList_nil ?_
      refine then_normal ?_
      by_cases h21 : xs1_2 < x.p
      · replace H := ite_yes h21 H
        refine wpc_yes ht rfl (decide_eq_true h21) ?_
        refine wp_skip ?_
        refine then_normal ?_
        refine wp_seq ?_
        refine wp_block ?_
        refine wp_seq ?_
        refine wpr ?_
        refine wpl rfl rfl ht (ev_move ht rfl rfl) ?_
        intro a ht
        refine wpl rfl rfl ht (ev_move ht rfl rfl) ?_
        intro a ht
        refine wpl rfl rfl ht (ev_move ht rfl rfl) ?_
        intro a ht
        refine wpl rfl rfl ht (ev_move ht rfl rfl) ?_
        intro a ht
        obtain ⟨t22, et22, H⟩ := bind_get H
        have hcall := impl_Colouring_goesWith.calls q20 _ _ b A c2 m x c list xs1_2 _ ((fun (hq : Ms _ _ _ ([.blk b 28 (Col.cells x)] ++ [.blk b2 2 [.int .i64 with_], .blk b3 62 [.func (.func 66) [].toArray [.pointer (some ⟨b4, 0, none⟩)].toArray], .blk b4 2 [.int .i64 with_2], .blk b5 2 [.int .i64 xs1_1]]) _ _) => hq.lend (φp := [IntsAt A c2 m list]) (allRO_cons (hq.lendFact 0 rfl) (allRO_nil))) (hm.pick (own' := [.blk b 28 (Col.cells x)] ++ [.blk b2 2 [.int .i64 with_], .blk b3 62 [.func (.func 66) [].toArray [.pointer (some ⟨b4, 0, none⟩)].toArray], .blk b4 2 [.int .i64 with_2], .blk b5 2 [.int .i64 xs1_1]]) [4, 0, 1, 2, 3] rfl (by decide))) et22
        refine wpl_call _ rfl rfl ht rfl rfl rfl rfl can_98 hcall ?_
        clear hcall
        rintro _ w ⟨rfl, hpost⟩ a ht
        replace hm := (hm.pick (own' := [.blk b 28 (Col.cells x)] ++ [.blk b2 2 [.int .i64 with_], .blk b3 62 [.func (.func 66) [].toArray [.pointer (some ⟨b4, 0, none⟩)].toArray], .blk b4 2 [.int .i64 with_2], .blk b5 2 [.int .i64 xs1_1]]) [4, 0, 1, 2, 3] rfl (by decide)).backL hpost
        clear hpost
        refine wpl rfl rfl ht (ev_move ht rfl rfl) ?_
        intro a ht
        by_cases h23 : t22 = true
        · replace H := ite_yes h23 H
          refine wpl_yes rfl ht rfl (h23) ?_
          refine wpl rfl rfl ht (ev_move ht rfl rfl) ?_
          intro a ht
          refine wpl_yes rfl ht rfl (h23) ?_
          refine wpl rfl rfl ht (ev_move ht rfl rfl) ?_
          intro a ht
          refine wpl_yes rfl ht rfl (h23) ?_
          refine wpl rfl rfl ht (ev_move ht rfl rfl) ?_
          intro a ht
          refine wpl_yes rfl ht rfl (h23) ?_
          obtain ⟨t24, et24, H⟩ := bind_get H
          have hcall := slices_Clone_int64_int64.calls _ _ A c2 m list _ ((fun (hq : Ms _ _ _ ([] ++ [.blk b 28 (Col.cells x), .blk b2 2 [.int .i64 with_], .blk b3 62 [.func (.func 66) [].toArray [.pointer (some ⟨b4, 0, none⟩)].toArray], .blk b4 2 [.int .i64 with_2], .blk b5 2 [.int .i64 xs1_1]]) _ _) => hq.lend (φp := [IntsAt A c2 m list]) (allRO_cons (hq.lendFact 0 rfl) (allRO_nil))) (hm.pick (own' := [] ++ [.blk b 28 (Col.cells x), .blk b2 2 [.int .i64 with_], .blk b3 62 [.func (.func 66) [].toArray [.pointer (some ⟨b4, 0, none⟩)].toArray], .blk b4 2 [.int .i64 with_2], .blk b5 2 [.int .i64 xs1_1]]) [0, 1, 2, 3, 4] rfl (by decide))) et24
          refine wpl_call _ rfl rfl ht rfl rfl rfl rfl can_123 hcall ?_
          clear hcall
          rintro _ w ⟨A25, c26, m27, rfl, hpost⟩ a ht
          replace hm := (hm.pick (own' := [] ++ [.blk b 28 (Col.cells x), .blk b2 2 [.int .i64 with_], .blk b3 62 [.func (.func 66) [].toArray [.pointer (some ⟨b4, 0, none⟩)].toArray], .blk b4 2 [.int .i64 with_2], .blk b5 2 [.int .i64 xs1_1]]) [0, 1, 2, 3, 4] rfl (by decide)).backL hpost
          clear hpost
          refine wpl_yes rfl ht rfl (h23) ?_
          refine wpl rfl rfl ht (ev_move ht rfl rfl) ?_
          intro a ht
          refine wpl_yes rfl ht rfl (h23) ?_
          refine wpl_build_ints (l := [xs1_2]) rfl rfl ht hm rfl und_25 zo_2 sz1_2 (by decide) rfl rfl rfl ?_
          intro A28 a ht w hm
          refine wpl_yes rfl ht rfl (h23) ?_
          obtain ⟨l32, el32, H⟩ := bind_get H
          refine wpl_push (r := l32) 1 0 rfl rfl ht hm rfl ap_25 rfl rfl rfl rfl el32 ?_
          intro A29 c30 m31 a ht w hm
          refine wpl_yes rfl ht rfl (h23) ?_
          refine wpl rfl rfl ht (ev_move ht rfl rfl) ?_
          intro a ht
          refine wpl_yes rfl ht rfl (h23) ?_
          obtain ⟨t33, et33, H⟩ := bind_get H
          have hcall := ih q20 (by omega) _ _ b A29 c30 m31 b2 b3 b4 b5 x c l32 with_ with_2 xs1_1 _ ((fun (hq : Ms _ _ _ ([.blk b 28 (Col.cells x), .blk b2 2 [.int .i64 with_], .blk b3 62 [.func (.func 66) [].toArray [.pointer (some ⟨b4, 0, none⟩)].toArray], .blk b4 2 [.int .i64 with_2], .blk b5 2 [.int .i64 xs1_1]] ++ [.vec A28 1 2 1 1 (ints ([xs1_2])), .vec A29 c30 2 1 m31 (ints l32)]) _ _) => hq.lend (φp := [IntsAt A29 c30 m31 l32]) (allRO_cons (hq.lendVec 1 rfl) (allRO_nil))) (hm.pick (own' := [.blk b 28 (Col.cells x), .blk b2 2 [.int .i64 with_], .blk b3 62 [.func (.func 66) [].toArray [.pointer (some ⟨b4, 0, none⟩)].toArray], .blk b4 2 [.int .i64 with_2], .blk b5 2 [.int .i64 xs1_1]] ++ [.vec A28 1 2 1 1 (ints ([xs1_2])), .vec A29 c30 2 1 m31 (ints l32)]) [2, 3, 4, 5, 6, 0, 1] rfl (by decide))) et33
          refine wpl_call _ rfl rfl ht rfl rfl rfl rfl can_104 hcall ?_
          clear hcall
          rintro _ w ⟨rfl, hpost⟩ a ht
          replace hm := (hm.pick (own' := [.blk b 28 (Col.cells x), .blk b2 2 [.int .i64 with_], .blk b3 62 [.func (.func 66) [].toArray [.pointer (some ⟨b4, 0, none⟩)].toArray], .blk b4 2 [.int .i64 with_2], .blk b5 2 [.int .i64 xs1_1]] ++ [.vec A28 1 2 1 1 (ints ([xs1_2])), .vec A29 c30 2 1 m31 (ints l32)]) [2, 3, 4, 5, 6, 0, 1] rfl (by decide)).backL hpost
          clear hpost
          refine wpl_yes rfl ht rfl (h23) ?_
          refine wpl rfl rfl ht (ev_not ht rfl rfl) ?_
          intro a ht
          refine wpl rfl rfl ht (ev_pick_yes ht rfl rfl h23 rfl) ?_
          intro a ht
          refine wpList_nil ?_
          refine then_normal ?_
          by_cases h34 : t33.1 = true
          · replace H := ite_yes h34 H
            refine wpc_no ht rfl (not_t h34) ?_
            refine wp_skip ?_
            refine blk_normal ?_
            refine then_normal ?_
            refine wpr ?_
            refine wpl rfl rfl ht (ev_move ht rfl rfl) ?_
            intro a ht
            refine wpl rfl rfl ht (ev_arith ht rfl rfl rfl rfl) ?_
            intro a ht
            refine wpl rfl rfl ht (ev_assign ht rfl rfl) ?_
            intro a ht
            refine wpList_nil ?_
            exact then_normal ⟨q20, by omega, t33.2, (w64 (xs1_2 + 1)), H, by omega, ht.sub ⟨rfl, rfl, rfl, rfl, rfl, rfl, trivial⟩, (hm.pick [1, 2, 3, 4, 0] rfl (by decide)).pickφ [0] rfl⟩
          · replace H := ite_no h34 H
            refine wpc_yes ht rfl (not_f (Bool.eq_false_iff.mpr h34)) ?_
            refine wp_seq ?_
            refine wpr ?_
            refine wpl rfl rfl ht (ev_assign ht rfl rfl) ?_
            intro a ht
            refine wpList_nil ?_
            refine then_normal ?_
            refine wp_ret ?_
            refine blk_ret ?_
            refine then_ret ?_
            refine then_ret ?_
            refine blk_ret ?_
            refine then_ret ?_
            have hres := ht.res (P := Try.prog) (w := w) (rs := [.tmp 8]) (vs := [.bool false]) (.tmp rfl .nil)
            obtain rfl := Option.some.inj H
            exact leave ht rfl hres ⟨rfl, ((hm.pick [0, 1, 2, 3, 4] rfl (by decide)).pickφ [] rfl).post fun _ h => h⟩
        · replace H := ite_no h23 H
          refine wpl_no rfl rfl ht rfl (by rw [(Bool.eq_false_iff.mpr h23)]; decide) ?_
          intro a ht
          refine wpl_no rfl rfl ht rfl (by rw [(Bool.eq_false_iff.mpr h23)]; decide) ?_
          intro a ht
          refine wpl_no rfl rfl ht rfl (by rw [(Bool.eq_false_iff.mpr h23)]; decide) ?_
          intro a ht
          refine wpl_no rfl rfl ht rfl (by rw [(Bool.eq_false_iff.mpr h23)]; decide) ?_
          intro a ht
          refine wpl_no rfl rfl ht rfl (by rw [(Bool.eq_false_iff.mpr h23)]; decide) ?_
          intro a ht
          refine wpl_no rfl rfl ht rfl (by rw [(Bool.eq_false_iff.mpr h23)]; decide) ?_
          intro a ht
          refine wpl_no rfl rfl ht rfl (by rw [(Bool.eq_false_iff.mpr h23)]; decide) ?_
          intro a ht
          refine wpl_no rfl rfl ht rfl (by rw [(Bool.eq_false_iff.mpr h23)]; decide) ?_
          intro a ht
          refine wpl_no rfl rfl ht rfl (by rw [(Bool.eq_false_iff.mpr h23)]; decide) ?_
          intro a ht
          refine wpl_no rfl rfl ht rfl (by rw [(Bool.eq_false_iff.mpr h23)]; decide) ?_
          intro a ht
          refine wpl rfl rfl ht (ev_pick_no ht rfl rfl (Bool.eq_false_iff.mpr h23) rfl) ?_
          intro a ht
          refine wpList_nil ?_
          refine then_normal ?_
          refine wpc_no ht rfl rfl ?_
          refine wp_skip ?_
          refine blk_normal ?_
          refine then_normal ?_
          refine wpr ?_
          refine wpl rfl rfl ht (ev_move ht rfl rfl) ?_
          intro a ht
          refine wpl rfl rfl ht (ev_arith ht rfl rfl rfl rfl) ?_
          intro a ht
          refine wpl rfl rfl ht (ev_assign ht rfl rfl) ?_
          intro a ht
          refine wpList_nil ?_
          exact then_normal ⟨q20, by omega, xs1_1, (w64 (xs1_2 + 1)), H, by omega, ht.sub ⟨rfl, rfl, rfl, rfl, rfl, rfl, trivial⟩, (hm.pick [1, 2, 3, 4, 0] rfl (by decide)).pickφ [0] rfl⟩
      · replace H := ite_no h21 H
        refine wpc_no ht rfl (decide_eq_false h21) ?_
        refine wp_exit ?_
        refine then_exit ?_
        refine then_exit ?_
        refine blk_hit ?_
        refine then_normal ?_
        refine wp_seq ?_
        refine wpr ?_
        refine wpl rfl rfl ht (ev_assign ht rfl rfl) ?_
        intro a ht
        refine wpList_nil ?_
        refine then_normal ?_
        refine wp_ret ?_
        have hres := ht.res (P := Try.prog) (w := w) (rs := [.tmp 8]) (vs := [.bool true]) (.tmp rfl .nil)
        obtain rfl := Option.some.inj H
        exact leave ht rfl hres ⟨rfl, ((hm.pick [4, 0, 1, 2, 3] rfl (by decide)).pickφ [] rfl).post fun _ h => h⟩
  · replace H := ite_no h2 H
    refine wpc_yes ht rfl (not_f (Bool.eq_false_iff.mpr h2)) ?_
    refine wp_seq ?_
    refine wpr ?_
    refine wpl rfl rfl ht (ev_assign ht rfl rfl) ?_
    intro a ht
    refine wpList_nil ?_
    refine then_normal ?_
    refine wp_ret ?_
    refine then_ret ?_
    have hres := ht.res (P := Try.prog) (w := w) (rs := [.tmp 8]) (vs := [.bool false]) (.tmp rfl .nil)
    obtain rfl := Option.some.inj H
    exact leave ht rfl hres ⟨rfl, ((hm.pick [4, 0, 1, 2, 3] rfl (by decide)).pickφ [] rfl).post fun _ h => h⟩

/-! ### impl_Colouring_countThat__CliquesAt_2: function 62 ((*loop.example/g01362/impl.Colouring).countThat) -/
def impl_Colouring_countThat__CliquesAt_2.f (k : Nat) (x : Col) (c : Int) (m : Int) (so : Int) : Option (Int) := (impl_Colouring_cliques__Colouring_countThat_1__CliquesAt_2.f k x c ([]) m so 0).bind fun t6 => some t6.2
set_option maxRecDepth 100000 in
set_option maxHeartbeats 1000000 in
theorem impl_Colouring_countThat__CliquesAt_2.calls (k : Nat) (X : List Nat) (w0 : World) (b : Nat) (b2 : Nat) (x : Col) (c : Int) (m : Int) (so : Int) (r : Int)
    (hp : Pre X w0 [.blk b 28 (Col.cells x), .blk b2 2 [.int .i64 so]] []) (H : impl_Colouring_countThat__CliquesAt_2.f k x c m so = some r) :
    Calls Try.prog 62 [.pointer (some ⟨b, 0, none⟩), .int .i64 c, .int .i64 m, .func (.func 66) [].toArray [.pointer (some ⟨b2, 0, none⟩)].toArray].toArray w0 (Ret fun v w => v = .int .i64 r ∧ Post X (fps [.blk b 28 (Col.cells x), .blk b2 2 [.int .i64 so]]) w0 [.blk b 28 (Col.cells x), .blk b2 2 [.int .i64 so]] [] w) := by
  unfold impl_Colouring_countThat__CliquesAt_2.f at H
  refine enterM (n := 15) hp Try.func62 rfl rfl (Nat.le_of_ble_eq_true rfl) fun a w ht hm => ?_
  refine wp_seq ?_
  refine wpr ?_
  refine wpl_box rfl rfl ht hm rfl rfl rfl ?_
  intro b1 a ht w hm
  refine wpl_box rfl rfl ht hm rfl rfl rfl ?_
  intro b3 a ht w hm
  refine wpl rfl rfl ht (ev_assign ht rfl rfl) ?_
  intro a ht
  refine wpList_nil ?_
  refine then_normal ?_
  refine wp_seq ?_
  refine wpr ?_
  refine wpl_alloc rfl rfl ht hm rfl zo_2 ?_
  intro b4 a ht w hm
  refine wpl_store_blk 0 rfl rfl ht hm rfl rfl rfl sz1_2 rfl rfl rfl ?_
  intro a ht w hm
  refine wpList_nil ?_
  refine then_normal ?_
  refine wp_seq ?_
  refine wpr ?_
  refine wpl rfl rfl ht (ev_move ht rfl rfl) ?_
  intro a ht
  refine wpl rfl rfl ht (ev_move ht rfl rfl) ?_
  intro a ht
  refine wpl rfl rfl ht (ev_makeFunc ht rfl rfl rfl) ?_
  intro a ht
  replace hm : Ms _ _ _ _ (IntsAt none 0 0 ([] : List Int) :: _) w := hm.nilRow none 1
  obtain ⟨t6, et6, H⟩ := bind_get H
  have hcall := impl_Colouring_cliques__Colouring_countThat_1__CliquesAt_2.calls k _ _ b none 0 0 b1 b3 b2 b4 x c ([]) m so 0 _ ((fun (hq : Ms _ _ _ ([.blk b 28 (Col.cells x), .blk b1 2 [.int .i64 m], .blk b3 62 [.func (.func 66) [].toArray [.pointer (some ⟨b2, 0, none⟩)].toArray], .blk b2 2 [.int .i64 so], .blk b4 2 [.int .i64 0]] ++ []) _ _) => hq.lend (φp := [IntsAt none 0 0 ([] : List Int)]) (allRO_cons (hq.lendFact 0 rfl) (allRO_nil))) (hm.pick (own' := [.blk b 28 (Col.cells x), .blk b1 2 [.int .i64 m], .blk b3 62 [.func (.func 66) [].toArray [.pointer (some ⟨b2, 0, none⟩)].toArray], .blk b2 2 [.int .i64 so], .blk b4 2 [.int .i64 0]] ++ []) [3, 2, 1, 4, 0] rfl (by decide))) et6
  refine wpl_call _ rfl rfl ht rfl rfl rfl rfl can_104 hcall ?_
  clear hcall
  rintro _ w ⟨rfl, hpost⟩ a ht
  replace hm := (hm.pick (own' := [.blk b 28 (Col.cells x), .blk b1 2 [.int .i64 m], .blk b3 62 [.func (.func 66) [].toArray [.pointer (some ⟨b2, 0, none⟩)].toArray], .blk b2 2 [.int .i64 so], .blk b4 2 [.int .i64 0]] ++ []) [3, 2, 1, 4, 0] rfl (by decide)).backL hpost
  clear hpost
  refine wpList_nil ?_
  refine then_normal ?_
  refine wp_seq ?_
  refine wpr ?_
  refine wpl rfl rfl ht (ev_load ht rfl rfl sc_2 (hm.blk_cell 4 rfl rfl)) ?_
  intro a ht
  refine wpl rfl rfl ht (ev_assign ht rfl rfl) ?_
  intro a ht
  refine wpList_nil ?_
  refine then_normal ?_
  refine wp_ret ?_
  have hres := ht.res (P := Try.prog) (w := w) (rs := [.tmp 8]) (vs := [.int .i64 t6.2]) (.tmp rfl .nil)
  obtain rfl := Option.some.inj H
  exact leave ht rfl hres ⟨rfl, ((hm.pick [0, 3] rfl (by decide)).pickφ [] rfl).post fun _ h => h⟩

/-! ### impl_CliquesAt: function 23 (loop.example/g01362/impl.CliquesAt) -/
def impl_CliquesAt.f (k : Nat) (x : Col) (c : Int) (p : Int) (m : Int) : Option (Int × Int) := (impl_Colouring_code__CliquesAt_1.f k x c p m).bind fun t5 => if t5 ≠ 0 then (some (0, t5)) else ((impl_Colouring_countThat__CliquesAt_2.f k x c m p).bind fun t7 => some (t7, 0))
set_option maxRecDepth 100000 in
set_option maxHeartbeats 1000000 in
theorem impl_CliquesAt.calls (k : Nat) (X : List Nat) (w0 : World)  (x : Col) (c : Int) (p : Int) (m : Int) (r : Int × Int)
    (hp : Pre X w0 [] []) (H : impl_CliquesAt.f k x c p m = some r) :
    Calls Try.prog 23 [.agg (Col.cells x).toArray, .int .i64 c, .int .i64 p, .int .i64 m].toArray w0 (Ret fun v w => v = .tuple [.int .i64 r.1, .int .i64 r.2].toArray ∧ Post X (fps []) w0 [] [] w) := by
  unfold impl_CliquesAt.f at H
  refine enterM (n := 20) hp Try.func23 rfl rfl (Nat.le_of_ble_eq_true rfl) fun a w ht hm => ?_
  refine wp_seq ?_
  refine wpr ?_
  refine wpl_box rfl rfl ht hm rfl rfl rfl ?_
  intro b1 a ht w hm
  refine wpl_box rfl rfl ht hm rfl rfl rfl ?_
  intro b2 a ht w hm
  refine wpl_box rfl rfl ht hm rfl rfl rfl ?_
  intro b3 a ht w hm
  refine wpl_box rfl rfl ht hm rfl rfl rfl ?_
  intro b4 a ht w hm
  refine wpl rfl rfl ht (ev_assign ht rfl rfl) ?_
  intro a ht
  refine wpl rfl rfl ht (ev_assign ht rfl rfl) ?_
  intro a ht
  refine wpList_nil ?_
  refine then_normal ?_
  refine wp_seq ?_
  refine wp_seq ?_
  refine wpr ?_
  refine wpl rfl rfl ht (ev_makeFunc ht rfl rfl rfl) ?_
  intro a ht
  obtain ⟨t5, et5, H⟩ := bind_get H
  have hcall := impl_Colouring_code__CliquesAt_1.calls k _ _ b1 b2 b3 b4 x c p m _ ((fun (hq : Ms _ _ _ ([.blk b1 28 (Col.cells x), .blk b2 2 [.int .i64 c], .blk b3 2 [.int .i64 p], .blk b4 2 [.int .i64 m]] ++ []) _ _) => hq.lend (φp := []) (allRO_nil)) (hm.pick (own' := [.blk b1 28 (Col.cells x), .blk b2 2 [.int .i64 c], .blk b3 2 [.int .i64 p], .blk b4 2 [.int .i64 m]] ++ []) [3, 2, 1, 0] rfl (by decide))) et5
  refine wpl_call _ rfl rfl ht rfl rfl rfl rfl can_52 hcall ?_
  clear hcall
  rintro _ w ⟨rfl, hpost⟩ a ht
  replace hm := (hm.pick (own' := [.blk b1 28 (Col.cells x), .blk b2 2 [.int .i64 c], .blk b3 2 [.int .i64 p], .blk b4 2 [.int .i64 m]] ++ []) [3, 2, 1, 0] rfl (by decide)).backL hpost
  clear hpost
  refine wpl rfl rfl ht (ev_assign ht rfl rfl) ?_
  intro a ht
  refine wpList_nil ?_
  refine then_normal ?_
  refine wp_seq ?_
  refine wpr ?_
  refine wpl rfl rfl ht (ev_move ht rfl rfl) ?_
  intro a ht
  refine wpl rfl rfl ht (ev_cmp ht rfl rfl rfl rfl) ?_
  intro a ht
  refine wpList_nil ?_
  refine then_normal ?_
  by_cases h6 : t5 ≠ 0
  · replace H := ite_yes h6 H
    refine wpc_yes ht rfl (decide_eq_true h6) ?_
    refine wp_seq ?_
    refine wpr ?_
    refine wpl rfl rfl ht (ev_move ht rfl rfl) ?_
    intro a ht
    refine wpl rfl rfl ht (ev_assign ht rfl rfl) ?_
    intro a ht
    refine wpl rfl rfl ht (ev_assign ht rfl rfl) ?_
    intro a ht
    refine wpList_nil ?_
    refine then_normal ?_
    refine wp_ret ?_
    refine then_ret ?_
    have hres := ht.res (P := Try.prog) (w := w) (rs := [.tmp 8, .tmp 9]) (vs := [.int .i64 0, .int .i64 t5]) (.tmp rfl (.tmp rfl .nil))
    obtain rfl := Option.some.inj H
    exact leave ht rfl hres ⟨rfl, ((hm.pick [] rfl (by decide)).pickφ [] rfl).post fun _ h => h⟩
  · replace H := ite_no h6 H
    refine wpc_no ht rfl (decide_eq_false h6) ?_
    refine wp_skip ?_
    refine then_normal ?_
    refine wp_seq ?_
    refine wpr ?_
    refine wpl rfl rfl ht (ev_load ht rfl rfl sc_2 (hm.blk_cell 1 rfl rfl)) ?_
    intro a ht
    refine wpl rfl rfl ht (ev_load ht rfl rfl sc_2 (hm.blk_cell 3 rfl rfl)) ?_
    intro a ht
    refine wpl rfl rfl ht (ev_makeFunc ht rfl rfl rfl) ?_
    intro a ht
    obtain ⟨t7, et7, H⟩ := bind_get H
    have hcall := impl_Colouring_countThat__CliquesAt_2.calls k _ _ b1 b3 x c m p _ ((fun (hq : Ms _ _ _ ([.blk b1 28 (Col.cells x), .blk b3 2 [.int .i64 p]] ++ [.blk b2 2 [.int .i64 c], .blk b4 2 [.int .i64 m]]) _ _) => hq.lend (φp := []) (allRO_nil)) (hm.pick (own' := [.blk b1 28 (Col.cells x), .blk b3 2 [.int .i64 p]] ++ [.blk b2 2 [.int .i64 c], .blk b4 2 [.int .i64 m]]) [0, 2, 1, 3] rfl (by decide))) et7
    refine wpl_call _ rfl rfl ht rfl rfl rfl rfl can_62 hcall ?_
    clear hcall
    rintro _ w ⟨rfl, hpost⟩ a ht
    replace hm := (hm.pick (own' := [.blk b1 28 (Col.cells x), .blk b3 2 [.int .i64 p]] ++ [.blk b2 2 [.int .i64 c], .blk b4 2 [.int .i64 m]]) [0, 2, 1, 3] rfl (by decide)).backL hpost
    clear hpost
    refine wpl rfl rfl ht (ev_assign ht rfl rfl) ?_
    intro a ht
    refine wpl rfl rfl ht (ev_assign ht rfl rfl) ?_
    intro a ht
    refine wpList_nil ?_
    refine then_normal ?_
    refine wp_ret ?_
    have hres := ht.res (P := Try.prog) (w := w) (rs := [.tmp 8, .tmp 9]) (vs := [.int .i64 t7, .int .i64 0]) (.tmp rfl (.tmp rfl .nil))
    obtain rfl := Option.some.inj H
    exact leave ht rfl hres ⟨rfl, ((hm.pick [] rfl (by decide)).pickφ [] rfl).post fun _ h => h⟩

/-! ### laws_FnExactCliquesAt: function 5 (loop.example/g01362/laws.FnExactCliquesAt) -/
def laws_FnExactCliquesAt.f (k : Nat) (aX : Col) (aC : Int) (aP : Int) (aM : Int) : Option (Bool) := (laws_toColouring.f k aX).bind fun t2 => (spec_CliquesAt.f k t2 aC aP aM).bind fun t3 => (laws_toColouring.f k aX).bind fun t4 => (impl_CliquesAt.f k t4 aC aP aM).bind fun t5 => if t5.1 ≠ t3.1 then (some false) else (if t5.2 ≠ t3.2 then (some false) else (some true))
set_option maxRecDepth 100000 in
set_option maxHeartbeats 1000000 in
theorem laws_FnExactCliquesAt.calls (k : Nat) (X : List Nat) (w0 : World)  (aX : Col) (aC : Int) (aP : Int) (aM : Int) (r : Bool)
    (hp : Pre X w0 [] []) (H : laws_FnExactCliquesAt.f k aX aC aP aM = some r) :
    Calls Try.prog 5 [.agg (Col.cells aX).toArray, .int .i64 aC, .int .i64 aP, .int .i64 aM].toArray w0 (Ret fun v w => v = .bool r ∧ Post X (fps []) w0 [] [] w) := by
  unfold laws_FnExactCliquesAt.f at H
  refine enterM (n := 39) hp Try.func5 rfl rfl (Nat.le_of_ble_eq_true rfl) fun a w ht hm => ?_
  refine wp_seq ?_
  refine wpr ?_
  refine wpl_box rfl rfl ht hm rfl rfl rfl ?_
  intro b1 a ht w hm
  refine wpl rfl rfl ht (ev_assign ht rfl rfl) ?_
  intro a ht
  refine wpList_nil ?_
  refine then_normal ?_
  refine wp_seq ?_
  refine wpr ?_
  refine wpl rfl rfl ht (ev_load_agg ht rfl rfl (ag_24.trans (by first | rw [Col.length_cells] | rfl)) (hm.blk_all 0 rfl)) ?_
  intro a ht
  obtain ⟨t2, et2, H⟩ := bind_get H
  have hcall := laws_toColouring.calls k _ _ aX _ ((fun (hq : Ms _ _ _ ([] ++ [.blk b1 24 (Col.cells aX)]) _ _) => hq.lend (φp := []) (allRO_nil)) (hm.pick (own' := [] ++ [.blk b1 24 (Col.cells aX)]) [0] rfl (by decide))) et2
  refine wpl_call _ rfl rfl ht rfl rfl rfl rfl can_16 hcall ?_
  clear hcall
  rintro _ w ⟨rfl, hpost⟩ a ht
  replace hm := (hm.pick (own' := [] ++ [.blk b1 24 (Col.cells aX)]) [0] rfl (by decide)).backL hpost
  clear hpost
  refine wpl rfl rfl ht (ev_move ht rfl rfl) ?_
  intro a ht
  refine wpl rfl rfl ht (ev_move ht rfl rfl) ?_
  intro a ht
  refine wpl rfl rfl ht (ev_move ht rfl rfl) ?_
  intro a ht
  obtain ⟨t3, et3, H⟩ := bind_get H
  have hcall := spec_CliquesAt.calls k _ _ t2 aC aP aM _ ((fun (hq : Ms _ _ _ ([] ++ [.blk b1 24 (Col.cells aX)]) _ _) => hq.lend (φp := []) (allRO_nil)) (hm.pick (own' := [] ++ [.blk b1 24 (Col.cells aX)]) [0] rfl (by decide))) et3
  refine wpl_call _ rfl rfl ht rfl rfl rfl rfl can_22 hcall ?_
  clear hcall
  rintro _ w ⟨rfl, hpost⟩ a ht
  replace hm := (hm.pick (own' := [] ++ [.blk b1 24 (Col.cells aX)]) [0] rfl (by decide)).backL hpost
  clear hpost
  refine wpl rfl rfl ht (ev_move ht rfl rfl) ?_
  intro a ht
  refine wpl rfl rfl ht (ev_extract ht rfl rfl rfl) ?_
  intro a ht
  refine wpl rfl rfl ht (ev_extract ht rfl rfl rfl) ?_
  intro a ht
  refine wpl rfl rfl ht (ev_assign ht rfl rfl) ?_
  intro a ht
  refine wpl rfl rfl ht (ev_assign ht rfl rfl) ?_
  intro a ht
  refine wpList_nil ?_
  refine then_normal ?_
  refine wp_seq ?_
  refine wpr ?_
  refine wpl rfl rfl ht (ev_load_agg ht rfl rfl (ag_24.trans (by first | rw [Col.length_cells] | rfl)) (hm.blk_all 0 rfl)) ?_
  intro a ht
  obtain ⟨t4, et4, H⟩ := bind_get H
  have hcall := laws_toColouring.calls k _ _ aX _ ((fun (hq : Ms _ _ _ ([] ++ [.blk b1 24 (Col.cells aX)]) _ _) => hq.lend (φp := []) (allRO_nil)) (hm.pick (own' := [] ++ [.blk b1 24 (Col.cells aX)]) [0] rfl (by decide))) et4
  refine wpl_call _ rfl rfl ht rfl rfl rfl rfl can_16 hcall ?_
  clear hcall
  rintro _ w ⟨rfl, hpost⟩ a ht
  replace hm := (hm.pick (own' := [] ++ [.blk b1 24 (Col.cells aX)]) [0] rfl (by decide)).backL hpost
  clear hpost
  refine wpl rfl rfl ht (ev_move ht rfl rfl) ?_
  intro a ht
  refine wpl rfl rfl ht (ev_move ht rfl rfl) ?_
  intro a ht
  refine wpl rfl rfl ht (ev_move ht rfl rfl) ?_
  intro a ht
  obtain ⟨t5, et5, H⟩ := bind_get H
  have hcall := impl_CliquesAt.calls k _ _ t4 aC aP aM _ ((fun (hq : Ms _ _ _ ([] ++ [.blk b1 24 (Col.cells aX)]) _ _) => hq.lend (φp := []) (allRO_nil)) (hm.pick (own' := [] ++ [.blk b1 24 (Col.cells aX)]) [0] rfl (by decide))) et5
  refine wpl_call _ rfl rfl ht rfl rfl rfl rfl can_23 hcall ?_
  clear hcall
  rintro _ w ⟨rfl, hpost⟩ a ht
  replace hm := (hm.pick (own' := [] ++ [.blk b1 24 (Col.cells aX)]) [0] rfl (by decide)).backL hpost
  clear hpost
  refine wpl rfl rfl ht (ev_move ht rfl rfl) ?_
  intro a ht
  refine wpl rfl rfl ht (ev_extract ht rfl rfl rfl) ?_
  intro a ht
  refine wpl rfl rfl ht (ev_extract ht rfl rfl rfl) ?_
  intro a ht
  refine wpl rfl rfl ht (ev_assign ht rfl rfl) ?_
  intro a ht
  refine wpl rfl rfl ht (ev_assign ht rfl rfl) ?_
  intro a ht
  refine wpList_nil ?_
  refine then_normal ?_
  refine wp_seq ?_
  refine wp_seq ?_
  refine wpr ?_
  refine wpl rfl rfl ht (ev_move ht rfl rfl) ?_
  intro a ht
  refine wpl rfl rfl ht (ev_move ht rfl rfl) ?_
  intro a ht
  refine wpl rfl rfl ht (ev_cmp ht rfl rfl rfl rfl) ?_
  intro a ht
  refine wpl rfl rfl ht (ev_move ht rfl rfl) ?_
  intro a ht
  by_cases h6 : t5.1 ≠ t3.1
  · replace H := ite_yes h6 H
    refine wpl_no rfl rfl ht rfl (by rw [(decide_eq_true h6)]; decide) ?_
    intro a ht
    refine wpl_no rfl rfl ht rfl (by rw [(decide_eq_true h6)]; decide) ?_
    intro a ht
    refine wpl_no rfl rfl ht rfl (by rw [(decide_eq_true h6)]; decide) ?_
    intro a ht
    refine wpl rfl rfl ht (ev_pick_yes ht rfl rfl (decide_eq_true h6) rfl) ?_
    intro a ht
    refine wpList_nil ?_
    refine then_normal ?_
    refine wpc_yes ht rfl rfl ?_
    refine wp_seq ?_
    refine wpr ?_
    refine wpl rfl rfl ht (ev_assign ht rfl rfl) ?_
    intro a ht
    refine wpList_nil ?_
    refine then_normal ?_
    refine wp_ret ?_
    refine then_ret ?_
    have hres := ht.res (P := Try.prog) (w := w) (rs := [.tmp 8]) (vs := [.bool false]) (.tmp rfl .nil)
    obtain rfl := Option.some.inj H
    exact leave ht rfl hres ⟨rfl, ((hm.pick [] rfl (by decide)).pickφ [] rfl).post fun _ h => h⟩
  · replace H := ite_no h6 H
    refine wpl_yes rfl ht rfl ((decide_eq_false h6)) ?_
    refine wpl rfl rfl ht (ev_move ht rfl rfl) ?_
    intro a ht
    refine wpl_yes rfl ht rfl ((decide_eq_false h6)) ?_
    refine wpl rfl rfl ht (ev_move ht rfl rfl) ?_
    intro a ht
    refine wpl_yes rfl ht rfl ((decide_eq_false h6)) ?_
    refine wpl rfl rfl ht (ev_cmp ht rfl rfl rfl rfl) ?_
    intro a ht
    refine wpl rfl rfl ht (ev_pick_no ht rfl rfl (decide_eq_false h6) rfl) ?_
    intro a ht
    refine wpList_nil ?_
    refine then_normal ?_
    by_cases h7 : t5.2 ≠ t3.2
    · replace H := ite_yes h7 H
      refine wpc_yes ht rfl (decide_eq_true h7) ?_
      refine wp_seq ?_
      refine wpr ?_
      refine wpl rfl rfl ht (ev_assign ht rfl rfl) ?_
      intro a ht
      refine wpList_nil ?_
      refine then_normal ?_
      refine wp_ret ?_
      refine then_ret ?_
      have hres := ht.res (P := Try.prog) (w := w) (rs := [.tmp 8]) (vs := [.bool false]) (.tmp rfl .nil)
      obtain rfl := Option.some.inj H
      exact leave ht rfl hres ⟨rfl, ((hm.pick [] rfl (by decide)).pickφ [] rfl).post fun _ h => h⟩
    · replace H := ite_no h7 H
      refine wpc_no ht rfl (decide_eq_false h7) ?_
      refine wp_skip ?_
      refine then_normal ?_
      refine wp_seq ?_
      refine wpr ?_
      refine wpl rfl rfl ht (ev_assign ht rfl rfl) ?_
      intro a ht
      refine wpList_nil ?_
      refine then_normal ?_
      refine wp_ret ?_
      have hres := ht.res (P := Try.prog) (w := w) (rs := [.tmp 8]) (vs := [.bool true]) (.tmp rfl .nil)
      obtain rfl := Option.some.inj H
      exact leave ht rfl hres ⟨rfl, ((hm.pick [] rfl (by decide)).pickφ [] rfl).post fun _ h => h⟩

end Go.Proofs.Ytdpamdedomkomaa.G
