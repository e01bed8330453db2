/- What each Go function computes, as a Lean function, and the proof that it does: written by a program of this session (wip/gen), part 7. -/
import Derived.Test.YtdpamdedomkomaaGFnExactFullCliques6
namespace Go.Proofs.Ytdpamdedomkomaa.G
open Go Go.RowKit Go.Proofs.Ytdpamdedomkomaa.K
set_option linter.unusedVariables false
set_option linter.unusedSimpArgs false

/-! ### impl_Colouring_cliques__Colouring_listThat_1__FullCliques_2: function 104 ((*loop.example/g01362/impl.Colouring).cliques) -/
mutual
def impl_Colouring_cliques__Colouring_listThat_1__FullCliques_2.l0 : Nat → Col → Int → List Int → Int → List (List Int) → Int → Option (Bool × List (List Int))
  | 0, _, _, _, _, _, _ => none
  | q10 + 1, x, c, list, with_, ls0_4, xs0_6 => if xs0_6 < x.p then ((impl_Colouring_goesWith.f q10 x c list xs0_6).bind fun t13 => if t13 = true then ((slices_Clone_int64_int64.f list).bind fun t16 => (push t16 xs0_6).bind fun l24 => (impl_Colouring_cliques__Colouring_listThat_1__FullCliques_2.f q10 x c l24 ls0_4 with_).bind fun t26 => if t26.1 = true then (impl_Colouring_cliques__Colouring_listThat_1__FullCliques_2.l0 q10 x c list with_ t26.2 (w64 (xs0_6 + 1))) else (some (false, t26.2))) else (impl_Colouring_cliques__Colouring_listThat_1__FullCliques_2.l0 q10 x c list with_ ls0_4 (w64 (xs0_6 + 1)))) else (some (true, ls0_4))
def impl_Colouring_cliques__Colouring_listThat_1__FullCliques_2.l1 : Nat → Col → Int → List Int → Int → List (List Int) → Int → Option (Bool × List (List Int))
  | 0, _, _, _, _, _, _ => none
  | q32 + 1, x, c, list, with_, ls1_4, xs1_6 => if xs1_6 < x.p then ((impl_Colouring_goesWith.f q32 x c list xs1_6).bind fun t35 => if t35 = true then ((slices_Clone_int64_int64.f list).bind fun t38 => (push t38 xs1_6).bind fun l46 => (impl_Colouring_cliques__Colouring_listThat_1__FullCliques_2.f q32 x c l46 ls1_4 with_).bind fun t48 => if t48.1 = true then (impl_Colouring_cliques__Colouring_listThat_1__FullCliques_2.l1 q32 x c list with_ t48.2 (w64 (xs1_6 + 1))) else (some (false, t48.2))) else (impl_Colouring_cliques__Colouring_listThat_1__FullCliques_2.l1 q32 x c list with_ ls1_4 (w64 (xs1_6 + 1)))) else (some (true, ls1_4))
def impl_Colouring_cliques__Colouring_listThat_1__FullCliques_2.f : Nat → Col → Int → List Int → List (List Int) → Int → Option (Bool × List (List Int))
  | 0, _, _, _, _, _ => none
  | k + 1, x, c, list, list2, with_ => (impl_Colouring_listThat_1__FullCliques_2.f k list list2 x with_).bind fun t1 => if t1.1 = true then (if (list.length : Int) > 0 then ((getI list (w64 ((list.length : Int) - 1))).bind fun t9 => impl_Colouring_cliques__Colouring_listThat_1__FullCliques_2.l0 k x c list with_ t1.2 (w64 (t9 + 1))) else (impl_Colouring_cliques__Colouring_listThat_1__FullCliques_2.l1 k x c list with_ t1.2 0)) else (some (false, t1.2))
end
set_option maxRecDepth 100000 in
set_option maxHeartbeats 1000000 in
theorem impl_Colouring_cliques__Colouring_listThat_1__FullCliques_2.calls (k : Nat) (X : List Nat) (w0 : World) (B : Nat) (b : Nat) (A : Option Addr) (c2 : Nat) (m : Nat) (A2 : Option Addr) (c3 : Nat) (m2 : Nat) (vs : List Value) (b2 : Nat) (b3 : Nat) (b4 : Nat) (x : Col) (c : Int) (list : List Int) (list2 : List (List Int)) (with_ : Int) (r : Bool × List (List Int))
    (hp : Pre X w0 [.blk b 28 (Col.cells x), .vec A2 c3 25 1 m2 vs, .blk b2 62 [.func (.func 96) [].toArray [.pointer (some ⟨b, 0, none⟩), .pointer (some ⟨b3, 0, none⟩)].toArray], .blk b3 2 [.int .i64 with_], .blk b4 49 [.slice A2 m2 c3]] [OwnAt B 2 A c2 m list, AllOwn B 2 vs list2, NewTo A c2 vs]) (hB : B ≤ w0.heap.size) (hV1 : ∀ b ∈ (HL.vec A2 c3 25 1 m2 (vs)).fp, B ≤ b) (H : impl_Colouring_cliques__Colouring_listThat_1__FullCliques_2.f k x c list list2 with_ = some r) :
    Calls Try.prog 104 [.pointer (some ⟨b, 0, none⟩), .int .i64 c, .slice A m c2, .func (.func 112) [].toArray [.pointer (some ⟨b2, 0, none⟩), .pointer (some ⟨b4, 0, none⟩)].toArray].toArray w0 (Ret fun v w => ∃ (B_4_0 : Option Addr) (d_4_0 : Nat) (m_4_0 : Nat) (us_4_0 : List Value), v = .bool r.1 ∧ Post X (fps [.blk b 28 (Col.cells x), .vec A2 c3 25 1 m2 vs, .blk b2 62 [.func (.func 96) [].toArray [.pointer (some ⟨b, 0, none⟩), .pointer (some ⟨b3, 0, none⟩)].toArray], .blk b3 2 [.int .i64 with_], .blk b4 49 [.slice A2 m2 c3]]) w0 [.blk b 28 (Col.cells x), .blk b2 62 [.func (.func 96) [].toArray [.pointer (some ⟨b, 0, none⟩), .pointer (some ⟨b3, 0, none⟩)].toArray], .blk b3 2 [.int .i64 with_], .vec B_4_0 d_4_0 25 1 m_4_0 us_4_0, .blk b4 49 [.slice B_4_0 m_4_0 d_4_0]] [AllOwn B 2 us_4_0 r.2] w) := by
  induction k using Nat.strongRecOn generalizing X w0 B b A c2 m A2 c3 m2 vs b2 b3 b4 x c list list2 with_ r with
  | _ k ih =>
  cases k with
  | zero => cases H
  | succ k =>
  rw [impl_Colouring_cliques__Colouring_listThat_1__FullCliques_2.f] at H
  refine enterM (n := 51) hp Try.func104 rfl rfl (Nat.le_of_ble_eq_true rfl) fun a w ht hm => ?_
  induction k using Nat.strongRecOn with
  | _ k ih =>
  refine wp_seq ?_
  refine wpr ?_
  refine wpl rfl rfl ht (ev_assign ht rfl rfl) ?_
  intro a ht
  refine wpList_nil ?_
  refine then_normal ?_
  refine wp_seq ?_
  refine wp_seq ?_
  refine wpr ?_
  refine wpl rfl rfl ht (ev_move ht rfl rfl) ?_
  intro a ht
  refine wpl rfl rfl ht (ev_move ht rfl rfl) ?_
  intro a ht
  obtain ⟨t1, et1, H⟩ := bind_get H
  have hcall := impl_Colouring_listThat_1__FullCliques_2.calls k _ _ B A c2 m A2 c3 m2 vs b2 b b3 b4 list list2 x with_ _ ((hm.pick (own' := [.vec A2 c3 25 1 m2 vs, .blk b2 62 [.func (.func 96) [].toArray [.pointer (some ⟨b, 0, none⟩), .pointer (some ⟨b3, 0, none⟩)].toArray], .blk b 28 (Col.cells x), .blk b3 2 [.int .i64 with_], .blk b4 49 [.slice A2 m2 c3]] ++ []) [1, 2, 0, 3, 4] rfl (by decide)).give (passed := [.vec A2 c3 25 1 m2 vs, .blk b2 62 [.func (.func 96) [].toArray [.pointer (some ⟨b, 0, none⟩), .pointer (some ⟨b3, 0, none⟩)].toArray], .blk b 28 (Col.cells x), .blk b3 2 [.int .i64 with_], .blk b4 49 [.slice A2 m2 c3]]) (rest := []) (φp := [OwnAt B 2 A c2 m list, AllOwn B 2 vs list2, NewTo A c2 vs]) [0, 1, 2] rfl) (Nat.le_trans hB hm.mod.size) (hm.ownGe 1 hB (srcIn 0 rfl rfl (srcGe hV1 (srcIn 1 rfl rfl (srcIn 2 rfl rfl (srcIn 3 rfl rfl srcNil))))) rfl) et1
  refine wpl_call _ rfl rfl ht rfl rfl rfl rfl can_112 hcall ?_
  clear hcall
  rintro _ w ⟨A3, c4, m5, vs6, rfl, hpost⟩ a ht
  replace hm := (hm.pick (own' := [.vec A2 c3 25 1 m2 vs, .blk b2 62 [.func (.func 96) [].toArray [.pointer (some ⟨b, 0, none⟩), .pointer (some ⟨b3, 0, none⟩)].toArray], .blk b 28 (Col.cells x), .blk b3 2 [.int .i64 with_], .blk b4 49 [.slice A2 m2 c3]] ++ []) [1, 2, 0, 3, 4] rfl (by decide)).back hpost
  clear hpost
  refine wpl rfl rfl ht (ev_not ht rfl rfl) ?_
  intro a ht
  refine wpList_nil ?_
  refine then_normal ?_
  by_cases h7 : t1.1 = true
  · replace H := ite_yes h7 H
    refine wpc_no ht rfl (not_t h7) ?_
    refine wp_skip ?_
    refine then_normal ?_
    refine wp_seq ?_
    refine wpr ?_
    refine wpl rfl rfl ht (ev_assign ht rfl rfl) ?_
    intro a ht
    refine wpList_nil ?_
    refine then_normal ?_
    refine wp_seq ?_
    refine wp_seq ?_
    refine wpr ?_
    refine wpl rfl rfl ht (ev_move ht rfl rfl) ?_
    intro a ht
    refine wpl rfl rfl ht (ev_len_of ht rfl rfl und_25 (OwnAt.row (hm.fact (φ := OwnAt B 2 A c2 m list) 1 rfl))) ?_
    intro a ht
    refine wpl rfl rfl ht (ev_cmp ht rfl rfl rfl rfl) ?_
    intro a ht
    refine wpList_nil ?_
    refine then_normal ?_
    by_cases h8 : (list.length : Int) > 0
    · replace H := ite_yes h8 H
      refine wpc_yes ht rfl (decide_eq_true h8) ?_
      refine wpr ?_
      refine wpl rfl rfl ht (ev_move ht rfl rfl) ?_
      intro a ht
      refine wpl rfl rfl ht (ev_move ht rfl rfl) ?_
      intro a ht
      refine wpl rfl rfl ht (ev_len_of ht rfl rfl und_25 (OwnAt.row (hm.fact (φ := OwnAt B 2 A c2 m list) 1 rfl))) ?_
      intro a ht
      refine wpl rfl rfl ht (ev_arith ht rfl rfl rfl rfl) ?_
      intro a ht
      obtain ⟨t9, et9, H⟩ := bind_get H
      refine wpl rfl rfl ht (ev_index_ints ht rfl rfl rfl so_25 (OwnAt.row (hm.fact (φ := OwnAt B 2 A c2 m list) 1 rfl)) et9) ?_
      intro a ht
      refine wpl rfl rfl ht (ev_load ht rfl rfl sc_2 (RowAt.cell (OwnAt.row (hm.fact (φ := OwnAt B 2 A c2 m list) 1 rfl)) (ints_get et9) rfl)) ?_
      intro a ht
      refine wpl rfl rfl ht (ev_arith ht rfl rfl rfl rfl) ?_
      intro a ht
      refine wpl rfl rfl ht (ev_assign ht rfl rfl) ?_
      intro a ht
      refine wpList_nil ?_
      refine then_normal ?_
      refine wp_seq ?_
      refine wp_seq ?_
      refine wpr ?_
      refine wpl rfl rfl ht (ev_move ht rfl rfl) ?_
      intro a ht
      refine wpl rfl rfl ht (ev_assign ht rfl rfl) ?_
      intro a ht
      refine wpList_nil ?_
      refine then_normal ?_
      refine wp_block ?_
      refine wpLoop (fun q a w => ∃ (ls0_4 : List (List Int)) (xs0_6 : Int) (As0_1 : Option Addr) (cs0_2 : Nat) (ms0_3 : Nat) (vss0_5 : List Value), impl_Colouring_cliques__Colouring_listThat_1__FullCliques_2.l0 q x c list with_ ls0_4 xs0_6 = some r ∧ q ≤ k ∧ Tm 51 [(0, .pointer (some ⟨b, 0, none⟩)), (1, .int .i64 c), (2, .slice A m c2), (3, .func (.func 112) [].toArray [.pointer (some ⟨b2, 0, none⟩), .pointer (some ⟨b4, 0, none⟩)].toArray), (8, .bool false), (10, .int .i64 xs0_6)] a ∧ Ms X (fps [.blk b 28 (Col.cells x), .vec A2 c3 25 1 m2 vs, .blk b2 62 [.func (.func 96) [].toArray [.pointer (some ⟨b, 0, none⟩), .pointer (some ⟨b3, 0, none⟩)].toArray], .blk b3 2 [.int .i64 with_], .blk b4 49 [.slice A2 m2 c3]]) w0 [.blk b2 62 [.func (.func 96) [].toArray [.pointer (some ⟨b, 0, none⟩), .pointer (some ⟨b3, 0, none⟩)].toArray], .blk b 28 (Col.cells x), .blk b3 2 [.int .i64 with_], .vec As0_1 cs0_2 25 1 ms0_3 vss0_5, .blk b4 49 [.slice As0_1 ms0_3 cs0_2]] [OwnAt B 2 A c2 m list, AllOwn B 2 vss0_5 ls0_4, AllOwn B 2 vs list2, NewTo A c2 vs] w) (k0 := k) ⟨t1.2, (w64 (t9 + 1)), A3, c4, m5, vs6, H, Nat.le_refl _, ht.sub ⟨rfl, rfl, rfl, rfl, rfl, rfl, trivial⟩, (hm.pick [0, 1, 2, 3, 4] rfl (by decide)).pickφ [1, 0, 2, 3] rfl⟩ ?_
      clear H ht hm
      intro q10 a w hJ
      obtain ⟨ls0_4, xs0_6, As0_1, cs0_2, ms0_3, vss0_5, H, hqq10, ht, hm⟩ := hJ
      cases q10 with
      | zero => cases H
      | succ q10 =>
      rw [impl_Colouring_cliques__Colouring_listThat_1__FullCliques_2.l0] at H
      refine wp_seq ?_
      refine wp_seq ?_
      refine wpr ?_
      refine wpl rfl rfl ht (ev_move ht rfl rfl) ?_
      intro a ht
      refine wpl rfl rfl ht (ev_move ht rfl rfl) ?_
      intro a ht
      refine wpl rfl rfl ht (ev_nilCheck ht rfl rfl) ?_
      intro a ht
      refine wpl rfl rfl ht (ev_fieldAddr ht rfl rfl fo_28_0) ?_
      intro a ht
      refine wpl rfl rfl ht (ev_load ht rfl rfl sc_2 (hm.blk_cell 1 rfl rfl)) ?_
      intro a ht
      refine wpl rfl rfl ht (ev_cmp ht rfl rfl rfl rfl) ?_
      intro a ht
      refine wpList_nil ?_
      refine then_normal ?_
      by_cases h11 : xs0_6 < x.p
      · replace H := ite_yes h11 H
        refine wpc_yes ht rfl (decide_eq_true h11) ?_
        refine wp_skip ?_
        refine then_normal ?_
        refine wp_seq ?_
        refine wp_block ?_
        refine wp_seq ?_
        refine wpr ?_
        refine wpl rfl rfl ht (ev_move ht rfl rfl) ?_
        intro a ht
        refine wpl rfl rfl ht (ev_move ht rfl rfl) ?_
        intro a ht
        refine wpl rfl rfl ht (ev_move ht rfl rfl) ?_
        intro a ht
        refine wpl rfl rfl ht (ev_move ht rfl rfl) ?_
        intro a ht
        replace hm : Ms _ _ _ _ (IntsAt A c2 m list :: _) w := hm.addφ ((hm.ro (φ := OwnAt B 2 A c2 m list) 0 rfl).mono fun w h => OwnAt.row h)
        obtain ⟨t13, et13, H⟩ := bind_get H
        have hcall := impl_Colouring_goesWith.calls q10 _ _ b A c2 m x c list xs0_6 _ ((fun (hq : Ms _ _ _ ([.blk b 28 (Col.cells x)] ++ [.blk b2 62 [.func (.func 96) [].toArray [.pointer (some ⟨b, 0, none⟩), .pointer (some ⟨b3, 0, none⟩)].toArray], .blk b3 2 [.int .i64 with_], .vec As0_1 cs0_2 25 1 ms0_3 vss0_5, .blk b4 49 [.slice As0_1 ms0_3 cs0_2]]) _ _) => hq.lend (φp := [IntsAt A c2 m list]) (allRO_cons (hq.lendFact 0 rfl) (allRO_nil))) (hm.pick (own' := [.blk b 28 (Col.cells x)] ++ [.blk b2 62 [.func (.func 96) [].toArray [.pointer (some ⟨b, 0, none⟩), .pointer (some ⟨b3, 0, none⟩)].toArray], .blk b3 2 [.int .i64 with_], .vec As0_1 cs0_2 25 1 ms0_3 vss0_5, .blk b4 49 [.slice As0_1 ms0_3 cs0_2]]) [1, 0, 2, 3, 4] rfl (by decide))) et13
        refine wpl_call _ rfl rfl ht rfl rfl rfl rfl can_98 hcall ?_
        clear hcall
        rintro _ w ⟨rfl, hpost⟩ a ht
        replace hm := (hm.pick (own' := [.blk b 28 (Col.cells x)] ++ [.blk b2 62 [.func (.func 96) [].toArray [.pointer (some ⟨b, 0, none⟩), .pointer (some ⟨b3, 0, none⟩)].toArray], .blk b3 2 [.int .i64 with_], .vec As0_1 cs0_2 25 1 ms0_3 vss0_5, .blk b4 49 [.slice As0_1 ms0_3 cs0_2]]) [1, 0, 2, 3, 4] rfl (by decide)).backL hpost
        clear hpost
        refine wpl rfl rfl ht (ev_move ht rfl rfl) ?_
        intro a ht
        by_cases h14 : t13 = true
        · replace H := ite_yes h14 H
          refine wpl_yes rfl ht rfl (h14) ?_
          refine wpl rfl rfl ht (ev_move ht rfl rfl) ?_
          intro a ht
          refine wpl_yes rfl ht rfl (h14) ?_
          refine wpl rfl rfl ht (ev_move ht rfl rfl) ?_
          intro a ht
          refine wpl_yes rfl ht rfl (h14) ?_
          refine wpl rfl rfl ht (ev_move ht rfl rfl) ?_
          intro a ht
          refine wpl_yes rfl ht rfl (h14) ?_
          replace hm : Ms _ _ _ _ (IntsAt A c2 m list :: _) w := hm.addφ ((hm.ro (φ := OwnAt B 2 A c2 m list) 1 rfl).mono fun w h => OwnAt.row h)
          obtain ⟨t16, et16, H⟩ := bind_get H
          have hcall := slices_Clone_int64_int64.calls _ _ A c2 m list _ ((fun (hq : Ms _ _ _ ([] ++ [.blk b 28 (Col.cells x), .blk b2 62 [.func (.func 96) [].toArray [.pointer (some ⟨b, 0, none⟩), .pointer (some ⟨b3, 0, none⟩)].toArray], .blk b3 2 [.int .i64 with_], .vec As0_1 cs0_2 25 1 ms0_3 vss0_5, .blk b4 49 [.slice As0_1 ms0_3 cs0_2]]) _ _) => hq.lend (φp := [IntsAt A c2 m list]) (allRO_cons (hq.lendFact 0 rfl) (allRO_nil))) (hm.pick (own' := [] ++ [.blk b 28 (Col.cells x), .blk b2 62 [.func (.func 96) [].toArray [.pointer (some ⟨b, 0, none⟩), .pointer (some ⟨b3, 0, none⟩)].toArray], .blk b3 2 [.int .i64 with_], .vec As0_1 cs0_2 25 1 ms0_3 vss0_5, .blk b4 49 [.slice As0_1 ms0_3 cs0_2]]) [0, 1, 2, 3, 4] rfl (by decide))) et16
          refine wpl_call _ rfl rfl ht rfl rfl rfl rfl can_123 hcall ?_
          clear hcall
          rintro _ w ⟨A17, c18, m19, rfl, hpost⟩ a ht
          replace hm := (hm.pick (own' := [] ++ [.blk b 28 (Col.cells x), .blk b2 62 [.func (.func 96) [].toArray [.pointer (some ⟨b, 0, none⟩), .pointer (some ⟨b3, 0, none⟩)].toArray], .blk b3 2 [.int .i64 with_], .vec As0_1 cs0_2 25 1 ms0_3 vss0_5, .blk b4 49 [.slice As0_1 ms0_3 cs0_2]]) [0, 1, 2, 3, 4] rfl (by decide)).backL hpost
          clear hpost
          refine wpl_yes rfl ht rfl (h14) ?_
          refine wpl rfl rfl ht (ev_move ht rfl rfl) ?_
          intro a ht
          refine wpl_yes rfl ht rfl (h14) ?_
          refine wpl_build_ints (l := [xs0_6]) rfl rfl ht hm rfl und_25 zo_2 sz1_2 (by decide) rfl rfl rfl ?_
          intro A20 a ht w hm
          refine wpl_yes rfl ht rfl (h14) ?_
          obtain ⟨l24, el24, H⟩ := bind_get H
          refine wpl_push (r := l24) 1 0 rfl rfl ht hm rfl ap_25 rfl rfl rfl rfl el24 ?_
          intro A21 c22 m23 a ht w hm
          refine wpl_yes rfl ht rfl (h14) ?_
          refine wpl rfl rfl ht (ev_move ht rfl rfl) ?_
          intro a ht
          refine wpl_yes rfl ht rfl (h14) ?_
          replace hm : Ms _ _ _ _ (NewTo A21 c22 vss0_5 :: _) w := hm.addφ (hm.newTo 1 3 rfl rfl)
          replace hm : Ms _ _ _ _ (OwnAt B 2 A21 c22 m23 l24 :: _) w := hm.shutOwn 1 (hm.ownGe 1 hB (srcIn 1 rfl rfl (srcGe hV1 (srcIn 2 rfl rfl (srcIn 3 rfl rfl (srcIn 5 rfl rfl srcNil))))) rfl) rfl
          obtain ⟨t26, et26, H⟩ := bind_get H
          have hcall := ih q10 (by omega) _ _ B b A21 c22 m23 As0_1 cs0_2 ms0_3 vss0_5 b2 b3 b4 x c l24 ls0_4 with_ _ ((hm.pick (own' := [.blk b 28 (Col.cells x), .vec As0_1 cs0_2 25 1 ms0_3 vss0_5, .blk b2 62 [.func (.func 96) [].toArray [.pointer (some ⟨b, 0, none⟩), .pointer (some ⟨b3, 0, none⟩)].toArray], .blk b3 2 [.int .i64 with_], .blk b4 49 [.slice As0_1 ms0_3 cs0_2]] ++ [.vec A20 1 2 1 1 (ints ([xs0_6]))]) [1, 4, 2, 3, 5, 0] rfl (by decide)).give (passed := [.blk b 28 (Col.cells x), .vec As0_1 cs0_2 25 1 ms0_3 vss0_5, .blk b2 62 [.func (.func 96) [].toArray [.pointer (some ⟨b, 0, none⟩), .pointer (some ⟨b3, 0, none⟩)].toArray], .blk b3 2 [.int .i64 with_], .blk b4 49 [.slice As0_1 ms0_3 cs0_2]]) (rest := [.vec A20 1 2 1 1 (ints ([xs0_6]))]) (φp := [OwnAt B 2 A21 c22 m23 l24, AllOwn B 2 vss0_5 ls0_4, NewTo A21 c22 vss0_5]) [0, 5, 1] rfl) (Nat.le_trans hB hm.mod.size) (hm.ownGe 4 hB (srcIn 1 rfl rfl (srcGe hV1 (srcIn 2 rfl rfl (srcIn 3 rfl rfl (srcIn 4 rfl rfl srcNil))))) rfl) et26
          refine wpl_call _ rfl rfl ht rfl rfl rfl rfl can_104 hcall ?_
          clear hcall
          rintro _ w ⟨A27, c28, m29, vs30, rfl, hpost⟩ a ht
          replace hm := (hm.pick (own' := [.blk b 28 (Col.cells x), .vec As0_1 cs0_2 25 1 ms0_3 vss0_5, .blk b2 62 [.func (.func 96) [].toArray [.pointer (some ⟨b, 0, none⟩), .pointer (some ⟨b3, 0, none⟩)].toArray], .blk b3 2 [.int .i64 with_], .blk b4 49 [.slice As0_1 ms0_3 cs0_2]] ++ [.vec A20 1 2 1 1 (ints ([xs0_6]))]) [1, 4, 2, 3, 5, 0] rfl (by decide)).back hpost
          clear hpost
          refine wpl_yes rfl ht rfl (h14) ?_
          refine wpl rfl rfl ht (ev_not ht rfl rfl) ?_
          intro a ht
          refine wpl rfl rfl ht (ev_pick_yes ht rfl rfl h14 rfl) ?_
          intro a ht
          refine wpList_nil ?_
          refine then_normal ?_
          by_cases h31 : t26.1 = true
          · replace H := ite_yes h31 H
            refine wpc_no ht rfl (not_t h31) ?_
            refine wp_skip ?_
            refine blk_normal ?_
            refine then_normal ?_
            refine wpr ?_
            refine wpl rfl rfl ht (ev_move ht rfl rfl) ?_
            intro a ht
            refine wpl rfl rfl ht (ev_arith ht rfl rfl rfl rfl) ?_
            intro a ht
            refine wpl rfl rfl ht (ev_assign ht rfl rfl) ?_
            intro a ht
            refine wpList_nil ?_
            exact then_normal ⟨q10, by omega, t26.2, (w64 (xs0_6 + 1)), A27, c28, m29, vs30, H, by omega, ht.sub ⟨rfl, rfl, rfl, rfl, rfl, rfl, trivial⟩, (hm.pick [1, 0, 2, 3, 4] rfl (by decide)).pickφ [5, 0, 7, 8] rfl⟩
          · replace H := ite_no h31 H
            refine wpc_yes ht rfl (not_f (Bool.eq_false_iff.mpr h31)) ?_
            refine wp_seq ?_
            refine wpr ?_
            refine wpl rfl rfl ht (ev_assign ht rfl rfl) ?_
            intro a ht
            refine wpList_nil ?_
            refine then_normal ?_
            refine wp_ret ?_
            refine blk_ret ?_
            refine then_ret ?_
            refine then_ret ?_
            refine blk_ret ?_
            refine then_ret ?_
            have hres := ht.res (P := Try.prog) (w := w) (rs := [.tmp 8]) (vs := [.bool false]) (.tmp rfl .nil)
            obtain rfl := Option.some.inj H
            exact leave ht rfl hres ⟨A27, c28, m29, vs30, rfl, ((hm.pick [0, 1, 2, 3, 4] rfl (by decide)).pickφ [0] rfl).post fun _ h => h⟩
        · replace H := ite_no h14 H
          refine wpl_no rfl rfl ht rfl (by rw [(Bool.eq_false_iff.mpr h14)]; decide) ?_
          intro a ht
          refine wpl_no rfl rfl ht rfl (by rw [(Bool.eq_false_iff.mpr h14)]; decide) ?_
          intro a ht
          refine wpl_no rfl rfl ht rfl (by rw [(Bool.eq_false_iff.mpr h14)]; decide) ?_
          intro a ht
          refine wpl_no rfl rfl ht rfl (by rw [(Bool.eq_false_iff.mpr h14)]; decide) ?_
          intro a ht
          refine wpl_no rfl rfl ht rfl (by rw [(Bool.eq_false_iff.mpr h14)]; decide) ?_
          intro a ht
          refine wpl_no rfl rfl ht rfl (by rw [(Bool.eq_false_iff.mpr h14)]; decide) ?_
          intro a ht
          refine wpl_no rfl rfl ht rfl (by rw [(Bool.eq_false_iff.mpr h14)]; decide) ?_
          intro a ht
          refine wpl_no rfl rfl ht rfl (by rw [(Bool.eq_false_iff.mpr h14)]; decide) ?_
          intro a ht
          refine wpl_no rfl rfl ht rfl (by rw [(Bool.eq_false_iff.mpr h14)]; decide) ?_
          intro a ht
          refine wpl_no rfl rfl ht rfl (by rw [(Bool.eq_false_iff.mpr h14)]; decide) ?_
          intro a ht
          refine wpl rfl rfl ht (ev_pick_no ht rfl rfl (Bool.eq_false_iff.mpr h14) rfl) ?_
          intro a ht
          refine wpList_nil ?_
          refine then_normal ?_
          refine wpc_no ht rfl rfl ?_
          refine wp_skip ?_
          refine blk_normal ?_
          refine then_normal ?_
          refine wpr ?_
          refine wpl rfl rfl ht (ev_move ht rfl rfl) ?_
          intro a ht
          refine wpl rfl rfl ht (ev_arith ht rfl rfl rfl rfl) ?_
          intro a ht
          refine wpl rfl rfl ht (ev_assign ht rfl rfl) ?_
          intro a ht
          refine wpList_nil ?_
          exact then_normal ⟨q10, by omega, ls0_4, (w64 (xs0_6 + 1)), As0_1, cs0_2, ms0_3, vss0_5, H, by omega, ht.sub ⟨rfl, rfl, rfl, rfl, rfl, rfl, trivial⟩, (hm.pick [1, 0, 2, 3, 4] rfl (by decide)).pickφ [1, 2, 3, 4] rfl⟩
      · replace H := ite_no h11 H
        refine wpc_no ht rfl (decide_eq_false h11) ?_
        refine wp_exit ?_
        refine then_exit ?_
        refine then_exit ?_
        refine blk_hit ?_
        refine then_normal ?_
        refine wp_seq ?_
        refine wpr ?_
        refine wpl rfl rfl ht (ev_assign ht rfl rfl) ?_
        intro a ht
        refine wpList_nil ?_
        refine then_normal ?_
        refine wp_ret ?_
        have hres := ht.res (P := Try.prog) (w := w) (rs := [.tmp 8]) (vs := [.bool true]) (.tmp rfl .nil)
        obtain rfl := Option.some.inj H
        exact leave ht rfl hres ⟨As0_1, cs0_2, ms0_3, vss0_5, rfl, ((hm.pick [1, 0, 2, 3, 4] rfl (by decide)).pickφ [1] rfl).post fun _ h => h⟩
    · replace H := ite_no h8 H
      refine wpc_no ht rfl (decide_eq_false h8) ?_
      refine wp_skip ?_
      refine then_normal ?_
      refine wp_seq ?_
      refine wp_seq ?_
      refine wpr ?_
      refine wpl rfl rfl ht (ev_move ht rfl rfl) ?_
      intro a ht
      refine wpl rfl rfl ht (ev_assign ht rfl rfl) ?_
      intro a ht
      refine wpList_nil ?_
      refine then_normal ?_
      refine wp_block ?_
      refine wpLoop (fun q a w => ∃ (ls1_4 : List (List Int)) (xs1_6 : Int) (As1_1 : Option Addr) (cs1_2 : Nat) (ms1_3 : Nat) (vss1_5 : List Value), impl_Colouring_cliques__Colouring_listThat_1__FullCliques_2.l1 q x c list with_ ls1_4 xs1_6 = some r ∧ q ≤ k ∧ Tm 51 [(0, .pointer (some ⟨b, 0, none⟩)), (1, .int .i64 c), (2, .slice A m c2), (3, .func (.func 112) [].toArray [.pointer (some ⟨b2, 0, none⟩), .pointer (some ⟨b4, 0, none⟩)].toArray), (8, .bool false), (10, .int .i64 xs1_6)] a ∧ Ms X (fps [.blk b 28 (Col.cells x), .vec A2 c3 25 1 m2 vs, .blk b2 62 [.func (.func 96) [].toArray [.pointer (some ⟨b, 0, none⟩), .pointer (some ⟨b3, 0, none⟩)].toArray], .blk b3 2 [.int .i64 with_], .blk b4 49 [.slice A2 m2 c3]]) w0 [.blk b2 62 [.func (.func 96) [].toArray [.pointer (some ⟨b, 0, none⟩), .pointer (some ⟨b3, 0, none⟩)].toArray], .blk b 28 (Col.cells x), .blk b3 2 [.int .i64 with_], .vec As1_1 cs1_2 25 1 ms1_3 vss1_5, .blk b4 49 [.slice As1_1 ms1_3 cs1_2]] [OwnAt B 2 A c2 m list, AllOwn B 2 vss1_5 ls1_4, AllOwn B 2 vs list2, NewTo A c2 vs] w) (k0 := k) ⟨t1.2, 0, A3, c4, m5, vs6, H, Nat.le_refl _, ht.sub ⟨rfl, rfl, rfl, rfl, rfl, rfl, trivial⟩, (hm.pick [0, 1, 2, 3, 4] rfl (by decide)).pickφ [1, 0, 2, 3] rfl⟩ ?_
      clear H ht hm
      intro q32 a w hJ
      obtain ⟨ls1_4, xs1_6, As1_1, cs1_2, ms1_3, vss1_5, H, hqq32, ht, hm⟩ := hJ
      cases q32 with
      | zero => cases H
      | succ q32 =>
      rw [impl_Colouring_cliques__Colouring_listThat_1__FullCliques_2.l1] at H
      refine wp_seq ?_
      refine wp_seq ?_
      refine wpr ?_
      refine wpl rfl rfl ht (ev_move ht rfl rfl) ?_
      intro a ht
      refine wpl rfl rfl ht (ev_move ht rfl rfl) ?_
      intro a ht
      refine wpl rfl rfl ht (ev_nilCheck ht rfl rfl) ?_
      intro a ht
      refine wpl rfl rfl ht (ev_fieldAddr ht rfl rfl fo_28_0) ?_
      intro a ht
      refine wpl rfl rfl ht (ev_load ht rfl rfl sc_2 (hm.blk_cell 1 rfl rfl)) ?_
      intro a ht
      refine wpl rfl rfl ht (ev_cmp ht rfl rfl rfl rfl) ?_
      intro a ht
      refine wpList_nil ?_
      refine then_normal ?_
      by_cases h33 : xs1_6 < x.p
      · replace H := ite_yes h33 H
        refine wpc_yes ht rfl (decide_eq_true h33) ?_
        refine wp_skip ?_
        refine then_normal ?_
        refine wp_seq ?_
        refine wp_block ?_
        refine wp_seq ?_
        refine wpr ?_
        refine wpl rfl rfl ht (ev_move ht rfl rfl) ?_
        intro a ht
        refine wpl rfl rfl ht (ev_move ht rfl rfl) ?_
        intro a ht
        refine wpl rfl rfl ht (ev_move ht rfl rfl) ?_
        intro a ht
        refine wpl rfl rfl ht (ev_move ht rfl rfl) ?_
        intro a ht
        replace hm : Ms _ _ _ _ (IntsAt A c2 m list :: _) w := hm.addφ ((hm.ro (φ := OwnAt B 2 A c2 m list) 0 rfl).mono fun w h => OwnAt.row h)
        obtain ⟨t35, et35, H⟩ := bind_get H
        have hcall := impl_Colouring_goesWith.calls q32 _ _ b A c2 m x c list xs1_6 _ ((fun (hq : Ms _ _ _ ([.blk b 28 (Col.cells x)] ++ [.blk b2 62 [.func (.func 96) [].toArray [.pointer (some ⟨b, 0, none⟩), .pointer (some ⟨b3, 0, none⟩)].toArray], .blk b3 2 [.int .i64 with_], .vec As1_1 cs1_2 25 1 ms1_3 vss1_5, .blk b4 49 [.slice As1_1 ms1_3 cs1_2]]) _ _) => hq.lend (φp := [IntsAt A c2 m list]) (allRO_cons (hq.lendFact 0 rfl) (allRO_nil))) (hm.pick (own' := [.blk b 28 (Col.cells x)] ++ [.blk b2 62 [.func (.func 96) [].toArray [.pointer (some ⟨b, 0, none⟩), .pointer (some ⟨b3, 0, none⟩)].toArray], .blk b3 2 [.int .i64 with_], .vec As1_1 cs1_2 25 1 ms1_3 vss1_5, .blk b4 49 [.slice As1_1 ms1_3 cs1_2]]) [1, 0, 2, 3, 4] rfl (by decide))) et35
        refine wpl_call _ rfl rfl ht rfl rfl rfl rfl can_98 hcall ?_
        clear hcall
        rintro _ w ⟨rfl, hpost⟩ a ht
        replace hm := (hm.pick (own' := [.blk b 28 (Col.cells x)] ++ [.blk b2 62 [.func (.func 96) [].toArray [.pointer (some ⟨b, 0, none⟩), .pointer (some ⟨b3, 0, none⟩)].toArray], .blk b3 2 [.int .i64 with_], .vec As1_1 cs1_2 25 1 ms1_3 vss1_5, .blk b4 49 [.slice As1_1 ms1_3 cs1_2]]) [1, 0, 2, 3, 4] rfl (by decide)).backL hpost
        clear hpost
        refine wpl rfl rfl ht (ev_move ht rfl rfl) ?_
        intro a ht
        by_cases h36 : t35 = true
        · replace H := ite_yes h36 H
          refine wpl_yes rfl ht rfl (h36) ?_
          refine wpl rfl rfl ht (ev_move ht rfl rfl) ?_
          intro a ht
          refine wpl_yes rfl ht rfl (h36) ?_
          refine wpl rfl rfl ht (ev_move ht rfl rfl) ?_
          intro a ht
          refine wpl_yes rfl ht rfl (h36) ?_
          refine wpl rfl rfl ht (ev_move ht rfl rfl) ?_
          intro a ht
          refine wpl_yes rfl ht rfl (h36) ?_
          replace hm : Ms _ _ _ _ (IntsAt A c2 m list :: _) w := hm.addφ ((hm.ro (φ := OwnAt B 2 A c2 m list) 1 rfl).mono fun w h => OwnAt.row h)
          obtain ⟨t38, et38, H⟩ := bind_get H
          have hcall := slices_Clone_int64_int64.calls _ _ A c2 m list _ ((fun (hq : Ms _ _ _ ([] ++ [.blk b 28 (Col.cells x), .blk b2 62 [.func (.func 96) [].toArray [.pointer (some ⟨b, 0, none⟩), .pointer (some ⟨b3, 0, none⟩)].toArray], .blk b3 2 [.int .i64 with_], .vec As1_1 cs1_2 25 1 ms1_3 vss1_5, .blk b4 49 [.slice As1_1 ms1_3 cs1_2]]) _ _) => hq.lend (φp := [IntsAt A c2 m list]) (allRO_cons (hq.lendFact 0 rfl) (allRO_nil))) (hm.pick (own' := [] ++ [.blk b 28 (Col.cells x), .blk b2 62 [.func (.func 96) [].toArray [.pointer (some ⟨b, 0, none⟩), .pointer (some ⟨b3, 0, none⟩)].toArray], .blk b3 2 [.int .i64 with_], .vec As1_1 cs1_2 25 1 ms1_3 vss1_5, .blk b4 49 [.slice As1_1 ms1_3 cs1_2]]) [0, 1, 2, 3, 4] rfl (by decide))) et38
          refine wpl_call _ rfl rfl ht rfl rfl rfl rfl can_123 hcall ?_
          clear hcall
          rintro _ w ⟨A39, c40, m41, rfl, hpost⟩ a ht
          replace hm := (hm.pick (own' := [] ++ [.blk b 28 (Col.cells x), .blk b2 62 [.func (.func 96) [].toArray [.pointer (some ⟨b, 0, none⟩), .pointer (some ⟨b3, 0, none⟩)].toArray], .blk b3 2 [.int .i64 with_], .vec As1_1 cs1_2 25 1 ms1_3 vss1_5, .blk b4 49 [.slice As1_1 ms1_3 cs1_2]]) [0, 1, 2, 3, 4] rfl (by decide)).backL hpost
          clear hpost
          refine wpl_yes rfl ht rfl (h36) ?_
          refine wpl rfl rfl ht (ev_move ht rfl rfl) ?_
          intro a ht
          refine wpl_yes rfl ht rfl (h36) ?_
          refine wpl_build_ints (l := [xs1_6]) rfl rfl ht hm rfl und_25 zo_2 sz1_2 (by decide) rfl rfl rfl ?_
          intro A42 a ht w hm
          refine wpl_yes rfl ht rfl (h36) ?_
          obtain ⟨l46, el46, H⟩ := bind_get H
          refine wpl_push (r := l46) 1 0 rfl rfl ht hm rfl ap_25 rfl rfl rfl rfl el46 ?_
          intro A43 c44 m45 a ht w hm
          refine wpl_yes rfl ht rfl (h36) ?_
          refine wpl rfl rfl ht (ev_move ht rfl rfl) ?_
          intro a ht
          refine wpl_yes rfl ht rfl (h36) ?_
          replace hm : Ms _ _ _ _ (NewTo A43 c44 vss1_5 :: _) w := hm.addφ (hm.newTo 1 3 rfl rfl)
          replace hm : Ms _ _ _ _ (OwnAt B 2 A43 c44 m45 l46 :: _) w := hm.shutOwn 1 (hm.ownGe 1 hB (srcIn 1 rfl rfl (srcGe hV1 (srcIn 2 rfl rfl (srcIn 3 rfl rfl (srcIn 5 rfl rfl srcNil))))) rfl) rfl
          obtain ⟨t48, et48, H⟩ := bind_get H
          have hcall := ih q32 (by omega) _ _ B b A43 c44 m45 As1_1 cs1_2 ms1_3 vss1_5 b2 b3 b4 x c l46 ls1_4 with_ _ ((hm.pick (own' := [.blk b 28 (Col.cells x), .vec As1_1 cs1_2 25 1 ms1_3 vss1_5, .blk b2 62 [.func (.func 96) [].toArray [.pointer (some ⟨b, 0, none⟩), .pointer (some ⟨b3, 0, none⟩)].toArray], .blk b3 2 [.int .i64 with_], .blk b4 49 [.slice As1_1 ms1_3 cs1_2]] ++ [.vec A42 1 2 1 1 (ints ([xs1_6]))]) [1, 4, 2, 3, 5, 0] rfl (by decide)).give (passed := [.blk b 28 (Col.cells x), .vec As1_1 cs1_2 25 1 ms1_3 vss1_5, .blk b2 62 [.func (.func 96) [].toArray [.pointer (some ⟨b, 0, none⟩), .pointer (some ⟨b3, 0, none⟩)].toArray], .blk b3 2 [.int .i64 with_], .blk b4 49 [.slice As1_1 ms1_3 cs1_2]]) (rest := [.vec A42 1 2 1 1 (ints ([xs1_6]))]) (φp := [OwnAt B 2 A43 c44 m45 l46, AllOwn B 2 vss1_5 ls1_4, NewTo A43 c44 vss1_5]) [0, 5, 1] rfl) (Nat.le_trans hB hm.mod.size) (hm.ownGe 4 hB (srcIn 1 rfl rfl (srcGe hV1 (srcIn 2 rfl rfl (srcIn 3 rfl rfl (srcIn 4 rfl rfl srcNil))))) rfl) et48
          refine wpl_call _ rfl rfl ht rfl rfl rfl rfl can_104 hcall ?_
          clear hcall
          rintro _ w ⟨A49, c50, m51, vs52, rfl, hpost⟩ a ht
          replace hm := (hm.pick (own' := [.blk b 28 (Col.cells x), .vec As1_1 cs1_2 25 1 ms1_3 vss1_5, .blk b2 62 [.func (.func 96) [].toArray [.pointer (some ⟨b, 0, none⟩), .pointer (some ⟨b3, 0, none⟩)].toArray], .blk b3 2 [.int .i64 with_], .blk b4 49 [.slice As1_1 ms1_3 cs1_2]] ++ [.vec A42 1 2 1 1 (ints ([xs1_6]))]) [1, 4, 2, 3, 5, 0] rfl (by decide)).back hpost
          clear hpost
          refine wpl_yes rfl ht rfl (h36) ?_
          refine wpl rfl rfl ht (ev_not ht rfl rfl) ?_
          intro a ht
          refine wpl rfl rfl ht (ev_pick_yes ht rfl rfl h36 rfl) ?_
          intro a ht
          refine wpList_nil ?_
          refine then_normal ?_
          by_cases h53 : t48.1 = true
          · replace H := ite_yes h53 H
            refine wpc_no ht rfl (not_t h53) ?_
            refine wp_skip ?_
            refine blk_normal ?_
            refine then_normal ?_
            refine wpr ?_
            refine wpl rfl rfl ht (ev_move ht rfl rfl) ?_
            intro a ht
            refine wpl rfl rfl ht (ev_arith ht rfl rfl rfl rfl) ?_
            intro a ht
            refine wpl rfl rfl ht (ev_assign ht rfl rfl) ?_
            intro a ht
            refine wpList_nil ?_
            exact then_normal ⟨q32, by omega, t48.2, (w64 (xs1_6 + 1)), A49, c50, m51, vs52, H, by omega, ht.sub ⟨rfl, rfl, rfl, rfl, rfl, rfl, trivial⟩, (hm.pick [1, 0, 2, 3, 4] rfl (by decide)).pickφ [5, 0, 7, 8] rfl⟩
          · replace H := ite_no h53 H
            refine wpc_yes ht rfl (not_f (Bool.eq_false_iff.mpr h53)) ?_
            refine wp_seq ?_
            refine wpr ?_
            refine wpl rfl rfl ht (ev_assign ht rfl rfl) ?_
            intro a ht
            refine wpList_nil ?_
            refine then_normal ?_
            refine wp_ret ?_
            refine blk_ret ?_
            refine then_ret ?_
            refine then_ret ?_
            refine blk_ret ?_
            refine then_ret ?_
            have hres := ht.res (P := Try.prog) (w := w) (rs := [.tmp 8]) (vs := [.bool false]) (.tmp rfl .nil)
            obtain rfl := Option.some.inj H
            exact leave ht rfl hres ⟨A49, c50, m51, vs52, rfl, ((hm.pick [0, 1, 2, 3, 4] rfl (by decide)).pickφ [0] rfl).post fun _ h => h⟩
        · replace H := ite_no h36 H
          refine wpl_no rfl rfl ht rfl (by rw [(Bool.eq_false_iff.mpr h36)]; decide) ?_
          intro a ht
          refine wpl_no rfl rfl ht rfl (by rw [(Bool.eq_false_iff.mpr h36)]; decide) ?_
          intro a ht
          refine wpl_no rfl rfl ht rfl (by rw [(Bool.eq_false_iff.mpr h36)]; decide) ?_
          intro a ht
          refine wpl_no rfl rfl ht rfl (by rw [(Bool.eq_false_iff.mpr h36)]; decide) ?_
          intro a ht
          refine wpl_no rfl rfl ht rfl (by rw [(Bool.eq_false_iff.mpr h36)]; decide) ?_
          intro a ht
          refine wpl_no rfl rfl ht rfl (by rw [(Bool.eq_false_iff.mpr h36)]; decide) ?_
          intro a ht
          refine wpl_no rfl rfl ht rfl (by rw [(Bool.eq_false_iff.mpr h36)]; decide) ?_
          intro a ht
          refine wpl_no rfl rfl ht rfl (by rw [(Bool.eq_false_iff.mpr h36)]; decide) ?_
          intro a ht
          refine wpl_no rfl rfl ht rfl (by rw [(Bool.eq_false_iff.mpr h36)]; decide) ?_
          intro a ht
          refine wpl_no rfl rfl ht rfl (by rw [(Bool.eq_false_iff.mpr h36)]; decide) ?_
          intro a ht
          refine wpl rfl rfl ht (ev_pick_no ht rfl rfl (Bool.eq_false_iff.mpr h36) rfl) ?_
          intro a ht
          refine wpList_nil ?_
          refine then_normal ?_
          refine wpc_no ht rfl rfl ?_
          refine wp_skip ?_
          refine blk_normal ?_
          refine then_normal ?_
          refine wpr ?_
          refine wpl rfl rfl ht (ev_move ht rfl rfl) ?_
          intro a ht
          refine wpl rfl rfl ht (ev_arith ht rfl rfl rfl rfl) ?_
          intro a ht
          refine wpl rfl rfl ht (ev_assign ht rfl rfl) ?_
          intro a ht
          refine wpList_nil ?_
          exact then_normal ⟨q32, by omega, ls1_4, (w64 (xs1_6 + 1)), As1_1, cs1_2, ms1_3, vss1_5, H, by omega, ht.sub ⟨rfl, rfl, rfl, rfl, rfl, rfl, trivial⟩, (hm.pick [1, 0, 2, 3, 4] rfl (by decide)).pickφ [1, 2, 3, 4] rfl⟩
      · replace H := ite_no h33 H
        refine wpc_no ht rfl (decide_eq_false h33) ?_
        refine wp_exit ?_
        refine then_exit ?_
        refine then_exit ?_
        refine blk_hit ?_
        refine then_normal ?_
        refine wp_seq ?_
        refine wpr ?_
        refine wpl rfl rfl ht (ev_assign ht rfl rfl) ?_
        intro a ht
        refine wpList_nil ?_
        refine then_normal ?_
        refine wp_ret ?_
        have hres := ht.res (P := Try.prog) (w := w) (rs := [.tmp 8]) (vs := [.bool true]) (.tmp rfl .nil)
        obtain rfl := Option.some.inj H
        exact leave ht rfl hres ⟨As1_1, cs1_2, ms1_3, vss1_5, rfl, ((hm.pick [1, 0, 2, 3, 4] rfl (by decide)).pickφ [1] rfl).post fun _ h => h⟩
  · replace H := ite_no h7 H
    refine wpc_yes ht rfl (not_f (Bool.eq_false_iff.mpr h7)) ?_
    refine wp_seq ?_
    refine wpr ?_
    refine wpl rfl rfl ht (ev_assign ht rfl rfl) ?_
    intro a ht
    refine wpList_nil ?_
    refine then_normal ?_
    refine wp_ret ?_
    refine then_ret ?_
    have hres := ht.res (P := Try.prog) (w := w) (rs := [.tmp 8]) (vs := [.bool false]) (.tmp rfl .nil)
    obtain rfl := Option.some.inj H
    exact leave ht rfl hres ⟨A3, c4, m5, vs6, rfl, ((hm.pick [1, 0, 2, 3, 4] rfl (by decide)).pickφ [0] rfl).post fun _ h => h⟩

/-! ### impl_Colouring_listThat__FullCliques_2: function 83 ((*loop.example/g01362/impl.Colouring).listThat) -/
def impl_Colouring_listThat__FullCliques_2.f (k : Nat) (x : Col) (c : Int) (so : Int) : Option (List (List Int) × Int) := (impl_Colouring_cliques__Colouring_listThat_1__FullCliques_2.f k x c ([] : List Int) ([] : List (List Int)) so).bind fun t6 => if t6.1 = true then (some (t6.2, 0)) else (some (([] : List (List Int)), 3))
set_option maxRecDepth 100000 in
set_option maxHeartbeats 1000000 in
theorem impl_Colouring_listThat__FullCliques_2.calls (k : Nat) (X : List Nat) (w0 : World) (b : Nat) (b2 : Nat) (x : Col) (c : Int) (so : Int) (r : List (List Int) × Int)
    (hp : Pre X w0 [.blk b 28 (Col.cells x), .blk b2 2 [.int .i64 so]] []) (H : impl_Colouring_listThat__FullCliques_2.f k x c so = some r) :
    Calls Try.prog 83 [.pointer (some ⟨b, 0, none⟩), .int .i64 c, .func (.func 96) [].toArray [.pointer (some ⟨b, 0, none⟩), .pointer (some ⟨b2, 0, none⟩)].toArray].toArray w0 (Ret fun v w => ∃ (A_0 : Option Addr) (c_0 : Nat) (n_0 : Nat) (vs_0 : List Value), v = .tuple [.slice A_0 n_0 c_0, .int .i64 r.2].toArray ∧ Post X (fps [.blk b 28 (Col.cells x), .blk b2 2 [.int .i64 so]]) w0 [.vecs A_0 c_0 25 2 n_0 vs_0 r.1, .blk b 28 (Col.cells x), .blk b2 2 [.int .i64 so]] [] w) := by
  unfold impl_Colouring_listThat__FullCliques_2.f at H
  refine enterM (n := 18) hp Try.func83 rfl rfl (Nat.le_of_ble_eq_true rfl) fun a w ht hm => ?_
  refine wp_seq ?_
  refine wpr ?_
  refine wpl_box rfl rfl ht hm rfl rfl rfl ?_
  intro b1 a ht w hm
  refine wpl rfl rfl ht (ev_assign ht rfl rfl) ?_
  intro a ht
  refine wpl rfl rfl ht (ev_assign ht rfl rfl) ?_
  intro a ht
  refine wpList_nil ?_
  refine then_normal ?_
  refine wp_seq ?_
  refine wpr ?_
  replace hm : Ms _ _ _ _ (AllOwn w0.heap.size 2 ([]) ([] : List (List Int)) :: _) w := hm.addφ (allOwn_nil w0.heap.size 2)
  refine wpl_buildSlice (vs := []) rfl rfl ht hm rfl und_49 zo_25 sz1_25 (by decide) rfl rfl rfl ?_
  intro A2 a ht w hm
  refine wpl_alloc rfl rfl ht hm rfl zo_49 ?_
  intro b3 a ht w hm
  refine wpl_store_blk 0 rfl rfl ht hm rfl rfl rfl sz1_49 rfl rfl rfl ?_
  intro a ht w hm
  refine wpList_nil ?_
  refine then_normal ?_
  refine wp_seq ?_
  refine wpr ?_
  refine wpl rfl rfl ht (ev_move ht rfl rfl) ?_
  intro a ht
  refine wpl rfl rfl ht (ev_move ht rfl rfl) ?_
  intro a ht
  refine wpl rfl rfl ht (ev_makeFunc ht rfl rfl rfl) ?_
  intro a ht
  replace hm : Ms _ _ _ _ (OwnAt w0.heap.size 2 none 0 0 ([] : List Int) :: _) w := hm.addφ (ownAt_nil _ _)
  replace hm : Ms _ _ _ _ (NewTo none 0 ([]) :: _) w := hm.addφ newTo_nil
  obtain ⟨t6, et6, H⟩ := bind_get H
  have hcall := impl_Colouring_cliques__Colouring_listThat_1__FullCliques_2.calls k _ _ w0.heap.size b none 0 0 A2 0 0 ([]) b1 b2 b3 x c ([] : List Int) ([] : List (List Int)) so _ ((hm.pick (own' := [.blk b 28 (Col.cells x), .vec A2 0 25 1 0 ([]), .blk b1 62 [.func (.func 96) [].toArray [.pointer (some ⟨b, 0, none⟩), .pointer (some ⟨b2, 0, none⟩)].toArray], .blk b2 2 [.int .i64 so], .blk b3 49 [.slice A2 0 0]] ++ []) [3, 1, 2, 4, 0] rfl (by decide)).give (passed := [.blk b 28 (Col.cells x), .vec A2 0 25 1 0 ([]), .blk b1 62 [.func (.func 96) [].toArray [.pointer (some ⟨b, 0, none⟩), .pointer (some ⟨b2, 0, none⟩)].toArray], .blk b2 2 [.int .i64 so], .blk b3 49 [.slice A2 0 0]]) (rest := []) (φp := [OwnAt w0.heap.size 2 none 0 0 ([] : List Int), AllOwn w0.heap.size 2 ([]) ([] : List (List Int)), NewTo none 0 ([])]) [1, 2, 0] rfl) hm.mod.size (hm.ownGe 1 (Nat.le_refl _) (srcIn 2 rfl rfl (srcIn 3 rfl rfl srcNil)) rfl) et6
  refine wpl_call _ rfl rfl ht rfl rfl rfl rfl can_104 hcall ?_
  clear hcall
  rintro _ w ⟨A7, c8, m9, vs10, rfl, hpost⟩ a ht
  replace hm := (hm.pick (own' := [.blk b 28 (Col.cells x), .vec A2 0 25 1 0 ([]), .blk b1 62 [.func (.func 96) [].toArray [.pointer (some ⟨b, 0, none⟩), .pointer (some ⟨b2, 0, none⟩)].toArray], .blk b2 2 [.int .i64 so], .blk b3 49 [.slice A2 0 0]] ++ []) [3, 1, 2, 4, 0] rfl (by decide)).back hpost
  clear hpost
  refine wpl rfl rfl ht (ev_assign ht rfl rfl) ?_
  intro a ht
  refine wpList_nil ?_
  refine then_normal ?_
  refine wp_seq ?_
  refine wp_seq ?_
  refine wpr ?_
  refine wpl rfl rfl ht (ev_move ht rfl rfl) ?_
  intro a ht
  refine wpl rfl rfl ht (ev_not ht rfl rfl) ?_
  intro a ht
  refine wpList_nil ?_
  refine then_normal ?_
  by_cases h11 : t6.1 = true
  · replace H := ite_yes h11 H
    refine wpc_no ht rfl (not_t h11) ?_
    refine wp_skip ?_
    refine then_normal ?_
    refine wp_seq ?_
    refine wpr ?_
    refine wpl rfl rfl ht (ev_load ht rfl rfl sc_49 (hm.blk_cell 4 rfl rfl)) ?_
    intro a ht
    refine wpl rfl rfl ht (ev_assign ht rfl rfl) ?_
    intro a ht
    refine wpl rfl rfl ht (ev_assign ht rfl rfl) ?_
    intro a ht
    refine wpList_nil ?_
    refine then_normal ?_
    refine wp_ret ?_
    have hres := ht.res (P := Try.prog) (w := w) (rs := [.tmp 6, .tmp 7]) (vs := [.slice A7 m9 c8, .int .i64 0]) (.tmp rfl (.tmp rfl .nil))
    replace hm := hm.gather (E2 := 2) 3 0 (Nat.le_refl _) rfl rfl
    obtain rfl := Option.some.inj H
    exact leave ht rfl hres ⟨A7, c8, m9, vs10, rfl, ((hm.pick [3, 0, 2] rfl (by decide)).pickφ [] rfl).post fun _ h => h⟩
  · replace H := ite_no h11 H
    refine wpc_yes ht rfl (not_f (Bool.eq_false_iff.mpr h11)) ?_
    refine wp_seq ?_
    refine wpr ?_
    refine wpl rfl rfl ht (ev_assign ht rfl rfl) ?_
    intro a ht
    refine wpl rfl rfl ht (ev_assign ht rfl rfl) ?_
    intro a ht
    refine wpList_nil ?_
    refine then_normal ?_
    refine wp_ret ?_
    refine then_ret ?_
    have hres := ht.res (P := Try.prog) (w := w) (rs := [.tmp 6, .tmp 7]) (vs := [.slice none 0 0, .int .i64 3]) (.tmp rfl (.tmp rfl .nil))
    replace hm : Ms _ _ _ (.vecs none 0 25 2 0 ([]) ([] : List (List Int)) :: _) _ w := hm.nilVecs none 25 2
    obtain rfl := Option.some.inj H
    exact leave ht rfl hres ⟨none, 0, 0, [], rfl, ((hm.pick [0, 1, 3] rfl (by decide)).pickφ [] rfl).post fun _ h => h⟩

/-! ### impl_FullCliques: function 46 (loop.example/g01362/impl.FullCliques) -/
def impl_FullCliques.f (k : Nat) (x : Col) (c : Int) : Option (List (List Int) × Int) := (impl_Colouring_code__FullCliques_1.f k x c).bind fun t3 => if t3 ≠ 0 then (some (([] : List (List Int)), t3)) else ((impl_Colouring_listThat__FullCliques_2.f k x c c).bind fun t6 => some (t6.1, t6.2))
set_option maxRecDepth 100000 in
set_option maxHeartbeats 1000000 in
theorem impl_FullCliques.calls (k : Nat) (X : List Nat) (w0 : World)  (x : Col) (c : Int) (r : List (List Int) × Int)
    (hp : Pre X w0 [] []) (H : impl_FullCliques.f k x c = some r) :
    Calls Try.prog 46 [.agg (Col.cells x).toArray, .int .i64 c].toArray w0 (Ret fun v w => ∃ (A_0 : Option Addr) (c_0 : Nat) (n_0 : Nat) (vs_0 : List Value), v = .tuple [.slice A_0 n_0 c_0, .int .i64 r.2].toArray ∧ Post X (fps []) w0 [.vecs A_0 c_0 25 2 n_0 vs_0 r.1] [] w) := by
  unfold impl_FullCliques.f at H
  refine enterM (n := 17) hp Try.func46 rfl rfl (Nat.le_of_ble_eq_true rfl) fun a w ht hm => ?_
  refine wp_seq ?_
  refine wpr ?_
  refine wpl_box rfl rfl ht hm rfl rfl rfl ?_
  intro b1 a ht w hm
  refine wpl_box rfl rfl ht hm rfl rfl rfl ?_
  intro b2 a ht w hm
  refine wpl rfl rfl ht (ev_assign ht rfl rfl) ?_
  intro a ht
  refine wpl rfl rfl ht (ev_assign ht rfl rfl) ?_
  intro a ht
  refine wpList_nil ?_
  refine then_normal ?_
  refine wp_seq ?_
  refine wp_seq ?_
  refine wpr ?_
  refine wpl rfl rfl ht (ev_makeFunc ht rfl rfl rfl) ?_
  intro a ht
  obtain ⟨t3, et3, H⟩ := bind_get H
  have hcall := impl_Colouring_code__FullCliques_1.calls k _ _ b1 b2 x c _ ((fun (hq : Ms _ _ _ ([.blk b1 28 (Col.cells x), .blk b2 2 [.int .i64 c]] ++ []) _ _) => hq.lend (φp := []) (allRO_nil)) (hm.pick (own' := [.blk b1 28 (Col.cells x), .blk b2 2 [.int .i64 c]] ++ []) [1, 0] rfl (by decide))) et3
  refine wpl_call _ rfl rfl ht rfl rfl rfl rfl can_52 hcall ?_
  clear hcall
  rintro _ w ⟨rfl, hpost⟩ a ht
  replace hm := (hm.pick (own' := [.blk b1 28 (Col.cells x), .blk b2 2 [.int .i64 c]] ++ []) [1, 0] rfl (by decide)).backL hpost
  clear hpost
  refine wpl rfl rfl ht (ev_assign ht rfl rfl) ?_
  intro a ht
  refine wpList_nil ?_
  refine then_normal ?_
  refine wp_seq ?_
  refine wpr ?_
  refine wpl rfl rfl ht (ev_move ht rfl rfl) ?_
  intro a ht
  refine wpl rfl rfl ht (ev_cmp ht rfl rfl rfl rfl) ?_
  intro a ht
  refine wpList_nil ?_
  refine then_normal ?_
  by_cases h4 : t3 ≠ 0
  · replace H := ite_yes h4 H
    refine wpc_yes ht rfl (decide_eq_true h4) ?_
    refine wp_seq ?_
    refine wpr ?_
    refine wpl rfl rfl ht (ev_move ht rfl rfl) ?_
    intro a ht
    refine wpl rfl rfl ht (ev_assign ht rfl rfl) ?_
    intro a ht
    refine wpl rfl rfl ht (ev_assign ht rfl rfl) ?_
    intro a ht
    refine wpList_nil ?_
    refine then_normal ?_
    refine wp_ret ?_
    refine then_ret ?_
    have hres := ht.res (P := Try.prog) (w := w) (rs := [.tmp 4, .tmp 5]) (vs := [.slice none 0 0, .int .i64 t3]) (.tmp rfl (.tmp rfl .nil))
    replace hm : Ms _ _ _ (.vecs none 0 25 2 0 ([]) ([] : List (List Int)) :: _) _ w := hm.nilVecs none 25 2
    obtain rfl := Option.some.inj H
    exact leave ht rfl hres ⟨none, 0, 0, [], rfl, ((hm.pick [0] rfl (by decide)).pickφ [] rfl).post fun _ h => h⟩
  · replace H := ite_no h4 H
    refine wpc_no ht rfl (decide_eq_false h4) ?_
    refine wp_skip ?_
    refine then_normal ?_
    refine wp_seq ?_
    refine wpr ?_
    refine wpl rfl rfl ht (ev_load ht rfl rfl sc_2 (hm.blk_cell 1 rfl rfl)) ?_
    intro a ht
    refine wpl rfl rfl ht (ev_makeFunc ht rfl rfl rfl) ?_
    intro a ht
    obtain ⟨t6, et6, H⟩ := bind_get H
    have hcall := impl_Colouring_listThat__FullCliques_2.calls k _ _ b1 b2 x c c _ ((fun (hq : Ms _ _ _ ([.blk b1 28 (Col.cells x), .blk b2 2 [.int .i64 c]] ++ []) _ _) => hq.lend (φp := []) (allRO_nil)) (hm.pick (own' := [.blk b1 28 (Col.cells x), .blk b2 2 [.int .i64 c]] ++ []) [0, 1] rfl (by decide))) et6
    refine wpl_call _ rfl rfl ht rfl rfl rfl rfl can_83 hcall ?_
    clear hcall
    rintro _ w ⟨A7, c8, m9, vs10, rfl, hpost⟩ a ht
    replace hm := (hm.pick (own' := [.blk b1 28 (Col.cells x), .blk b2 2 [.int .i64 c]] ++ []) [0, 1] rfl (by decide)).backL hpost
    clear hpost
    refine wpl rfl rfl ht (ev_extract ht rfl rfl rfl) ?_
    intro a ht
    refine wpl rfl rfl ht (ev_extract ht rfl rfl rfl) ?_
    intro a ht
    refine wpl rfl rfl ht (ev_assign ht rfl rfl) ?_
    intro a ht
    refine wpl rfl rfl ht (ev_assign ht rfl rfl) ?_
    intro a ht
    refine wpList_nil ?_
    refine then_normal ?_
    refine wp_ret ?_
    have hres := ht.res (P := Try.prog) (w := w) (rs := [.tmp 4, .tmp 5]) (vs := [.slice A7 m9 c8, .int .i64 t6.2]) (.tmp rfl (.tmp rfl .nil))
    obtain rfl := Option.some.inj H
    exact leave ht rfl hres ⟨A7, c8, m9, vs10, rfl, ((hm.pick [0] rfl (by decide)).pickφ [] rfl).post fun _ h => h⟩

end Go.Proofs.Ytdpamdedomkomaa.G
