/- What each Go function computes, as a Lean function, and the proof that it does: written by a program of this session (wip/gen), part 8. -/
import Derived.Test.YtocjhmeekecdiaaGFnExactFreeChanges7
namespace Go.Proofs.Ytocjhmeekecdiaa.G
open Go Go.RowKit Go.Proofs.Ytocjhmeekecdiaa.K
set_option linter.unusedVariables false
set_option linter.unusedSimpArgs false

/-! ### impl_FreeChanges: function 21 (loop.example/g01362/impl.FreeChanges) -/
mutual
def impl_FreeChanges.l0 : Nat → Col → List Int → List (List Int) → Int → Option (List (List Int) × Int)
  | 0, _, _, _, _ => none
  | q6 + 1, x, sizes, ls0_4, xs0_6 => if xs0_6 < x.p then (impl_FreeChanges.l1 q6 x sizes xs0_6 (w64 (xs0_6 + 1)) ls0_4) else (some (ls0_4, 0))
def impl_FreeChanges.l1 : Nat → Col → List Int → Int → Int → List (List Int) → Option (List (List Int) × Int)
  | 0, _, _, _, _, _ => none
  | q10 + 1, x, sizes, xs0_6, xs1_2, ls1_6 => if xs1_2 < x.p then (impl_FreeChanges.l2 q10 x sizes xs0_6 xs1_2 ls1_6 0) else (impl_FreeChanges.l0 q10 x sizes ls1_6 (w64 (xs0_6 + 1)))
def impl_FreeChanges.l2 : Nat → Col → List Int → Int → Int → List (List Int) → Int → Option (List (List Int) × Int)
  | 0, _, _, _, _, _, _ => none
  | q12 + 1, x, sizes, xs0_6, xs1_2, ls2_4, xs2_6 => if xs2_6 < x.k then ((impl_Colouring_that__FreeChanges_1.f q12 x xs0_6 xs2_6 xs1_2).bind fun t15 => (impl_Colouring_at.f x xs0_6 xs1_2).bind fun t19 => if t19 ≠ xs2_6 then ((getI sizes xs2_6).bind fun t21 => (impl_Colouring_hasClique.f q12 x xs2_6 (w64 (t21 - 2)) t15).bind fun t22 => if t22 = true then (impl_FreeChanges.l2 q12 x sizes xs0_6 xs1_2 ls2_4 (w64 (xs2_6 + 1))) else ((concatR ls2_4 ([[xs0_6, xs1_2, xs2_6]])).bind fun l30 => impl_FreeChanges.l2 q12 x sizes xs0_6 xs1_2 l30 (w64 (xs2_6 + 1)))) else (impl_FreeChanges.l2 q12 x sizes xs0_6 xs1_2 ls2_4 (w64 (xs2_6 + 1)))) else (impl_FreeChanges.l1 q12 x sizes xs0_6 (w64 (xs1_2 + 1)) ls2_4)
end
def impl_FreeChanges.f (k : Nat) (x : Col) (sizes : List Int) : Option (List (List Int) × Int) := (impl_Colouring_extendingCode__always.f k x sizes 17).bind fun t2 => if t2 ≠ 0 then (some (([] : List (List Int)), t2)) else (impl_FreeChanges.l0 k x sizes ([] : List (List Int)) 0)
set_option maxRecDepth 100000 in
set_option maxHeartbeats 1000000 in
theorem impl_FreeChanges.calls (k : Nat) (X : List Nat) (w0 : World) (A : Option Addr) (c : Nat) (m : Nat) (x : Col) (sizes : List Int) (r : List (List Int) × Int)
    (hp : Pre X w0 [] [IntsAt A c m sizes]) (H : impl_FreeChanges.f k x sizes = some r) :
    Calls Try.prog 21 [.agg (Col.cells x).toArray, .slice A m c].toArray w0 (Ret fun v w => ∃ (A_0 : Option Addr) (c_0 : Nat) (n_0 : Nat) (vs_0 : List Value), v = .tuple [.slice A_0 n_0 c_0, .int .i64 r.2].toArray ∧ Post X (fps []) w0 [.vecs A_0 c_0 25 2 n_0 vs_0 r.1] [] w) := by
  unfold impl_FreeChanges.f at H
  refine enterM (n := 65) hp Try.func21 rfl rfl (Nat.le_of_ble_eq_true rfl) fun a w ht hm => ?_
  refine wp_seq ?_
  refine wpr ?_
  refine wpl_box rfl rfl ht hm rfl rfl rfl ?_
  intro b1 a ht w hm
  refine wpl rfl rfl ht (ev_assign ht rfl rfl) ?_
  intro a ht
  refine wpl rfl rfl ht (ev_assign ht rfl rfl) ?_
  intro a ht
  refine wpList_nil ?_
  refine then_normal ?_
  refine wp_seq ?_
  refine wp_seq ?_
  refine wpr ?_
  refine wpl rfl rfl ht (ev_move ht rfl rfl) ?_
  intro a ht
  obtain ⟨t2, et2, H⟩ := bind_get H
  have hcall := impl_Colouring_extendingCode__always.calls k _ _ b1 A c m x sizes 17 _ ((fun (hq : Ms _ _ _ ([.blk b1 28 (Col.cells x)] ++ []) _ _) => hq.lend (φp := [IntsAt A c m sizes]) (allRO_cons (hq.lendFact 0 rfl) (allRO_nil))) (hm.pick (own' := [.blk b1 28 (Col.cells x)] ++ []) [0] rfl (by decide))) et2
  refine wpl_call _ rfl rfl ht rfl rfl rfl rfl can_32 hcall ?_
  clear hcall
  rintro _ w ⟨rfl, hpost⟩ a ht
  replace hm := (hm.pick (own' := [.blk b1 28 (Col.cells x)] ++ []) [0] rfl (by decide)).backL hpost
  clear hpost
  refine wpl rfl rfl ht (ev_assign ht rfl rfl) ?_
  intro a ht
  refine wpList_nil ?_
  refine then_normal ?_
  refine wp_seq ?_
  refine wpr ?_
  refine wpl rfl rfl ht (ev_move ht rfl rfl) ?_
  intro a ht
  refine wpl rfl rfl ht (ev_cmp ht rfl rfl rfl rfl) ?_
  intro a ht
  refine wpList_nil ?_
  refine then_normal ?_
  by_cases h3 : t2 ≠ 0
  · replace H := ite_yes h3 H
    refine wpc_yes ht rfl (decide_eq_true h3) ?_
    refine wp_seq ?_
    refine wpr ?_
    refine wpl rfl rfl ht (ev_move ht rfl rfl) ?_
    intro a ht
    refine wpl rfl rfl ht (ev_assign ht rfl rfl) ?_
    intro a ht
    refine wpl rfl rfl ht (ev_assign ht rfl rfl) ?_
    intro a ht
    refine wpList_nil ?_
    refine then_normal ?_
    refine wp_ret ?_
    refine then_ret ?_
    have hres := ht.res (P := Try.prog) (w := w) (rs := [.tmp 4, .tmp 5]) (vs := [.slice none 0 0, .int .i64 t2]) (.tmp rfl (.tmp rfl .nil))
    replace hm : Ms _ _ _ (.vecs none 0 25 2 0 ([]) ([] : List (List Int)) :: _) _ w := hm.nilVecs none 25 2
    obtain rfl := Option.some.inj H
    exact leave ht rfl hres ⟨none, 0, 0, [], rfl, ((hm.pick [0] rfl (by decide)).pickφ [] rfl).post fun _ h => h⟩
  · replace H := ite_no h3 H
    refine wpc_no ht rfl (decide_eq_false h3) ?_
    refine wp_skip ?_
    refine then_normal ?_
    refine wp_seq ?_
    refine wpr ?_
    replace hm : Ms _ _ _ _ (AllOwn w0.heap.size 2 ([]) ([] : List (List Int)) :: _) w := hm.addφ (allOwn_nil w0.heap.size 2)
    refine wpl_buildSlice (vs := []) rfl rfl ht hm rfl und_38 zo_25 sz1_25 (by decide) rfl rfl rfl ?_
    intro A5 a ht w hm
    refine wpl rfl rfl ht (ev_assign ht rfl rfl) ?_
    intro a ht
    refine wpList_nil ?_
    refine then_normal ?_
    refine wp_seq ?_
    refine wp_seq ?_
    refine wpr ?_
    refine wpl rfl rfl ht (ev_fieldAddr ht rfl rfl fo_28_0) ?_
    intro a ht
    refine wpl rfl rfl ht (ev_load ht rfl rfl sc_2 (hm.blk_cell 1 rfl rfl)) ?_
    intro a ht
    refine wpl rfl rfl ht (ev_move ht rfl rfl) ?_
    intro a ht
    refine wpList_nil ?_
    refine then_normal ?_
    refine wp_block ?_
    refine wpLoop (fun q a w => ∃ (ls0_4 : List (List Int)) (xs0_6 : Int) (As0_1 : Option Addr) (cs0_2 : Nat) (ms0_3 : Nat) (vss0_5 : List Value), impl_FreeChanges.l0 q x sizes ls0_4 xs0_6 = some r ∧ q ≤ k ∧ Tm 65 [(1, .slice A m c), (2, .pointer (some ⟨b1, 0, none⟩)), (4, .slice none 0 0), (5, .int .i64 0), (7, .slice As0_1 ms0_3 cs0_2), (19, .int .i64 x.p), (20, .int .i64 xs0_6)] a ∧ Ms X (fps []) w0 [.vec As0_1 cs0_2 25 1 ms0_3 vss0_5, .blk b1 28 (Col.cells x)] [IntsAt A c m sizes, AllOwn w0.heap.size 2 vss0_5 ls0_4] w) (k0 := k) ⟨([] : List (List Int)), 0, A5, 0, 0, ([]), H, Nat.le_refl _, ht.sub ⟨rfl, rfl, rfl, rfl, rfl, rfl, rfl, trivial⟩, (hm.pick [0, 1] rfl (by decide)).pickφ [1, 0] rfl⟩ ?_
    clear H ht hm
    intro q6 a w hJ
    obtain ⟨ls0_4, xs0_6, As0_1, cs0_2, ms0_3, vss0_5, H, hqq6, ht, hm⟩ := hJ
    cases q6 with
    | zero => cases H
    | succ q6 =>
    rw [impl_FreeChanges.l0] at H
    refine wp_seq ?_
    refine wpr ?_
    refine wpl rfl rfl ht (ev_cmp ht rfl rfl rfl rfl) ?_
    intro a ht
    refine wpList_nil ?_
    refine then_normal ?_
    refine wp_seq ?_
    by_cases h7 : xs0_6 < x.p
    · replace H := ite_yes h7 H
      refine wpc_yes ht rfl (decide_eq_true h7) ?_
      refine wp_skip ?_
      refine then_normal ?_
      refine wp_seq ?_
      refine wp_block ?_
      refine wp_seq ?_
      refine wpr ?_
      refine wpl rfl rfl ht (ev_move ht rfl rfl) ?_
      intro a ht
      refine wpl_alloc rfl rfl ht hm rfl zo_2 ?_
      intro b8 a ht w hm
      refine wpl_store_blk 0 rfl rfl ht hm rfl rfl rfl sz1_2 rfl rfl rfl ?_
      intro a ht w hm
      refine wpList_nil ?_
      refine then_normal ?_
      refine wp_seq ?_
      refine wpr ?_
      refine wpl rfl rfl ht (ev_load ht rfl rfl sc_2 (hm.blk_cell 0 rfl rfl)) ?_
      intro a ht
      refine wpl rfl rfl ht (ev_arith ht rfl rfl rfl rfl) ?_
      intro a ht
      refine wpl_alloc rfl rfl ht hm rfl zo_2 ?_
      intro b9 a ht w hm
      refine wpl_store_blk 0 rfl rfl ht hm rfl rfl rfl sz1_2 rfl rfl rfl ?_
      intro a ht w hm
      refine wpList_nil ?_
      refine then_normal ?_
      refine wp_block ?_
      refine wpLoop (fun q a w => ∃ (xs1_2 : Int) (ls1_6 : List (List Int)) (bs1_1 : Nat) (As1_3 : Option Addr) (cs1_4 : Nat) (ms1_5 : Nat) (vss1_7 : List Value), impl_FreeChanges.l1 q x sizes xs0_6 xs1_2 ls1_6 = some r ∧ q ≤ q6 ∧ Tm 65 [(1, .slice A m c), (2, .pointer (some ⟨b1, 0, none⟩)), (4, .slice none 0 0), (5, .int .i64 0), (7, .slice As1_3 ms1_5 cs1_4), (8, .pointer (some ⟨b8, 0, none⟩)), (9, .pointer (some ⟨bs1_1, 0, none⟩)), (19, .int .i64 x.p), (20, .int .i64 xs0_6), (21, .bool (decide (xs0_6 < x.p))), (22, .int .i64 xs0_6), (23, .int .i64 xs0_6), (24, .int .i64 (w64 (xs0_6 + 1)))] a ∧ Ms X (fps []) w0 [.blk bs1_1 2 [.int .i64 xs1_2], .blk b8 2 [.int .i64 xs0_6], .vec As1_3 cs1_4 25 1 ms1_5 vss1_7, .blk b1 28 (Col.cells x)] [IntsAt A c m sizes, AllOwn w0.heap.size 2 vss1_7 ls1_6] w) (k0 := q6) ⟨(w64 (xs0_6 + 1)), ls0_4, b9, As0_1, cs0_2, ms0_3, vss0_5, H, Nat.le_refl _, ht.sub ⟨rfl, rfl, rfl, rfl, rfl, rfl, rfl, rfl, rfl, rfl, rfl, rfl, rfl, trivial⟩, (hm.pick [0, 1, 2, 3] rfl (by decide)).pickφ [0, 1] rfl⟩ ?_
      clear H ht hm
      intro q10 a w hJ
      obtain ⟨xs1_2, ls1_6, bs1_1, As1_3, cs1_4, ms1_5, vss1_7, H, hqq10, ht, hm⟩ := hJ
      cases q10 with
      | zero => cases H
      | succ q10 =>
      rw [impl_FreeChanges.l1] at H
      refine wp_seq ?_
      refine wp_seq ?_
      refine wpr ?_
      refine wpl rfl rfl ht (ev_load ht rfl rfl sc_2 (hm.blk_cell 0 rfl rfl)) ?_
      intro a ht
      refine wpl rfl rfl ht (ev_fieldAddr ht rfl rfl fo_28_0) ?_
      intro a ht
      refine wpl rfl rfl ht (ev_load ht rfl rfl sc_2 (hm.blk_cell 3 rfl rfl)) ?_
      intro a ht
      refine wpl rfl rfl ht (ev_cmp ht rfl rfl rfl rfl) ?_
      intro a ht
      refine wpList_nil ?_
      refine then_normal ?_
      by_cases h11 : xs1_2 < x.p
      · replace H := ite_yes h11 H
        refine wpc_yes ht rfl (decide_eq_true h11) ?_
        refine wp_skip ?_
        refine then_normal ?_
        refine wp_seq ?_
        refine wp_block ?_
        refine wp_seq ?_
        refine wpr ?_
        refine wpl rfl rfl ht (ev_fieldAddr ht rfl rfl fo_28_1) ?_
        intro a ht
        refine wpl rfl rfl ht (ev_load ht rfl rfl sc_2 (hm.blk_cell 3 rfl rfl)) ?_
        intro a ht
        refine wpl rfl rfl ht (ev_move ht rfl rfl) ?_
        intro a ht
        refine wpList_nil ?_
        refine then_normal ?_
        refine wp_block ?_
        refine wpLoop (fun q a w => ∃ (ls2_4 : List (List Int)) (xs2_6 : Int) (As2_1 : Option Addr) (cs2_2 : Nat) (ms2_3 : Nat) (vss2_5 : List Value), impl_FreeChanges.l2 q x sizes xs0_6 xs1_2 ls2_4 xs2_6 = some r ∧ q ≤ q10 ∧ Tm 65 [(1, .slice A m c), (2, .pointer (some ⟨b1, 0, none⟩)), (4, .slice none 0 0), (5, .int .i64 0), (7, .slice As2_1 ms2_3 cs2_2), (8, .pointer (some ⟨b8, 0, none⟩)), (9, .pointer (some ⟨bs1_1, 0, none⟩)), (19, .int .i64 x.p), (20, .int .i64 xs0_6), (21, .bool (decide (xs0_6 < x.p))), (22, .int .i64 xs0_6), (23, .int .i64 xs0_6), (24, .int .i64 (w64 (xs0_6 + 1))), (25, .int .i64 xs1_2), (26, .pointer (some ⟨b1, 0 + 0, none⟩)), (27, .int .i64 x.p), (28, .bool (decide (xs1_2 < x.p))), (31, .pointer (some ⟨b1, 0 + 1, none⟩)), (32, .int .i64 x.k), (33, .int .i64 xs2_6)] a ∧ Ms X (fps []) w0 [.blk bs1_1 2 [.int .i64 xs1_2], .blk b8 2 [.int .i64 xs0_6], .vec As2_1 cs2_2 25 1 ms2_3 vss2_5, .blk b1 28 (Col.cells x)] [IntsAt A c m sizes, AllOwn w0.heap.size 2 vss2_5 ls2_4] w) (k0 := q10) ⟨ls1_6, 0, As1_3, cs1_4, ms1_5, vss1_7, H, Nat.le_refl _, ht.sub ⟨rfl, rfl, rfl, rfl, rfl, rfl, rfl, rfl, rfl, rfl, rfl, rfl, rfl, rfl, rfl, rfl, rfl, rfl, rfl, rfl, trivial⟩, (hm.pick [0, 1, 2, 3] rfl (by decide)).pickφ [0, 1] rfl⟩ ?_
        clear H ht hm
        intro q12 a w hJ
        obtain ⟨ls2_4, xs2_6, As2_1, cs2_2, ms2_3, vss2_5, H, hqq12, ht, hm⟩ := hJ
        cases q12 with
        | zero => cases H
        | succ q12 =>
        rw [impl_FreeChanges.l2] at H
        refine wp_seq ?_
        refine wpr ?_
        refine wpl rfl rfl ht (ev_cmp ht rfl rfl rfl rfl) ?_
        intro a ht
        refine wpList_nil ?_
        refine then_normal ?_
        refine wp_seq ?_
        by_cases h13 : xs2_6 < x.k
        · replace H := ite_yes h13 H
          refine wpc_yes ht rfl (decide_eq_true h13) ?_
          refine wp_skip ?_
          refine then_normal ?_
          refine wp_seq ?_
          refine wp_block ?_
          refine wp_seq ?_
          refine wpr ?_
          refine wpl rfl rfl ht (ev_move ht rfl rfl) ?_
          intro a ht
          refine wpl_alloc rfl rfl ht hm rfl zo_2 ?_
          intro b14 a ht w hm
          refine wpl_store_blk 0 rfl rfl ht hm rfl rfl rfl sz1_2 rfl rfl rfl ?_
          intro a ht w hm
          refine wpList_nil ?_
          refine then_normal ?_
          refine wp_seq ?_
          refine wpr ?_
          refine wpl rfl rfl ht (ev_makeFunc ht rfl rfl rfl) ?_
          intro a ht
          obtain ⟨t15, et15, H⟩ := bind_get H
          have hcall := impl_Colouring_that__FreeChanges_1.calls q12 _ _ b1 b8 b14 bs1_1 x xs0_6 xs2_6 xs1_2 _ ((fun (hq : Ms _ _ _ ([.blk b1 28 (Col.cells x), .blk b8 2 [.int .i64 xs0_6], .blk b14 2 [.int .i64 xs2_6], .blk bs1_1 2 [.int .i64 xs1_2]] ++ [.vec As2_1 cs2_2 25 1 ms2_3 vss2_5]) _ _) => hq.lend (φp := []) (allRO_nil)) (hm.pick (own' := [.blk b1 28 (Col.cells x), .blk b8 2 [.int .i64 xs0_6], .blk b14 2 [.int .i64 xs2_6], .blk bs1_1 2 [.int .i64 xs1_2]] ++ [.vec As2_1 cs2_2 25 1 ms2_3 vss2_5]) [4, 2, 0, 1, 3] rfl (by decide))) et15
          refine wpl_call _ rfl rfl ht rfl rfl rfl rfl can_48 hcall ?_
          clear hcall
          rintro _ w ⟨A16, c17, m18, rfl, hpost⟩ a ht
          replace hm := (hm.pick (own' := [.blk b1 28 (Col.cells x), .blk b8 2 [.int .i64 xs0_6], .blk b14 2 [.int .i64 xs2_6], .blk bs1_1 2 [.int .i64 xs1_2]] ++ [.vec As2_1 cs2_2 25 1 ms2_3 vss2_5]) [4, 2, 0, 1, 3] rfl (by decide)).backL hpost
          clear hpost
          refine wpl rfl rfl ht (ev_assign ht rfl rfl) ?_
          intro a ht
          refine wpList_nil ?_
          refine then_normal ?_
          refine wp_seq ?_
          refine wph_begin (fun w => Ms X (fps []) w0 [.vec A16 c17 2 1 m18 (ints t15), .blk b1 28 (Col.cells x), .blk b8 2 [.int .i64 xs0_6], .blk b14 2 [.int .i64 xs2_6], .blk bs1_1 2 [.int .i64 xs1_2], .vec As2_1 cs2_2 25 1 ms2_3 vss2_5] [IntsAt A c m sizes, AllOwn w0.heap.size 2 vss2_5 ls2_4] w) mixed ?_
          replace hm := hm.drew
          have hS : Ms X (fps []) w0 [.vec A16 c17 2 1 m18 (ints t15), .blk b1 28 (Col.cells x), .blk b8 2 [.int .i64 xs0_6], .blk b14 2 [.int .i64 xs2_6], .blk bs1_1 2 [.int .i64 xs1_2], .vec As2_1 cs2_2 25 1 ms2_3 vss2_5] [IntsAt A c m sizes, AllOwn w0.heap.size 2 vss2_5 ls2_4] w.drew := (hm.pick [0, 1, 2, 3, 4, 5] rfl (by decide)).pickφ [0, 1] rfl
          generalize w.drew = w at hm hS ⊢
          refine wph_take (i := 0) rfl (by kernel_rfl) (by kernel_rfl) (by kernel_rfl) (fun _ _ _ h => h) rfl ht hS (wanted_plain rfl) (fun w hm => ev_load ht rfl rfl sc_2 (hm.blk_cell 2 rfl rfl)) ?_
          intro a ht
          refine wph_take (i := 1) rfl (by kernel_rfl) (by kernel_rfl) (by kernel_rfl) (fun _ _ _ h => h) rfl ht hS (wanted_plain rfl) (fun w hm => ev_load ht rfl rfl sc_2 (hm.blk_cell 4 rfl rfl)) ?_
          intro a ht
          refine wph_take (i := 3) rfl (by kernel_rfl) (by kernel_rfl) (by kernel_rfl) (fun _ _ _ h => h) rfl ht hS (wanted_plain rfl) (fun w hm => ev_load ht rfl rfl sc_2 (hm.blk_cell 3 rfl rfl)) ?_
          intro a ht
          refine wph_one (i := 2) (by kernel_rfl) (wph_step rfl ?_)
          obtain ⟨t19, et19, H⟩ := bind_get H
          have hcall := impl_Colouring_at.calls _ _ b1 x xs0_6 xs1_2 _ ((fun (hq : Ms _ _ _ ([.blk b1 28 (Col.cells x)] ++ [.vec A16 c17 2 1 m18 (ints t15), .blk b8 2 [.int .i64 xs0_6], .blk b14 2 [.int .i64 xs2_6], .blk bs1_1 2 [.int .i64 xs1_2], .vec As2_1 cs2_2 25 1 ms2_3 vss2_5]) _ _) => hq.lend (φp := []) (allRO_nil)) (hm.pick (own' := [.blk b1 28 (Col.cells x)] ++ [.vec A16 c17 2 1 m18 (ints t15), .blk b8 2 [.int .i64 xs0_6], .blk b14 2 [.int .i64 xs2_6], .blk bs1_1 2 [.int .i64 xs1_2], .vec As2_1 cs2_2 25 1 ms2_3 vss2_5]) [1, 0, 2, 3, 4, 5] rfl (by decide))) et19
          refine wpl_call _ rfl rfl ht rfl rfl rfl rfl can_51 hcall ?_
          clear hcall
          rintro _ w ⟨rfl, hpost⟩ a ht
          replace hm := (hm.pick (own' := [.blk b1 28 (Col.cells x)] ++ [.vec A16 c17 2 1 m18 (ints t15), .blk b8 2 [.int .i64 xs0_6], .blk b14 2 [.int .i64 xs2_6], .blk bs1_1 2 [.int .i64 xs1_2], .vec As2_1 cs2_2 25 1 ms2_3 vss2_5]) [1, 0, 2, 3, 4, 5] rfl (by decide)).backL hpost
          clear hpost
          have hS : Ms X (fps []) w0 [.vec A16 c17 2 1 m18 (ints t15), .blk b1 28 (Col.cells x), .blk b8 2 [.int .i64 xs0_6], .blk b14 2 [.int .i64 xs2_6], .blk bs1_1 2 [.int .i64 xs1_2], .vec As2_1 cs2_2 25 1 ms2_3 vss2_5] [IntsAt A c m sizes, AllOwn w0.heap.size 2 vss2_5 ls2_4] w := (hm.pick [1, 0, 2, 3, 4, 5] rfl (by decide)).pickφ [0, 1] rfl
          refine wpList_nil (qn ⟨hS, ?_⟩)
          refine wph_take (i := 4) rfl (by kernel_rfl) (by kernel_rfl) (by kernel_rfl) (fun _ _ _ h => h) rfl ht hS (wanted_plain rfl) (fun w hm => ev_cmp ht rfl rfl rfl rfl) ?_
          intro a ht
          refine wph_take (i := 5) rfl (by kernel_rfl) (by kernel_rfl) (by kernel_rfl) (fun _ _ _ h => h) rfl ht hS (wanted_plain rfl) (fun w hm => ev_move ht rfl rfl) ?_
          intro a ht
          by_cases h20 : t19 ≠ xs2_6
          · replace H := ite_yes h20 H
            refine wph_take (i := 6) rfl (by kernel_rfl) (by kernel_rfl) (by kernel_rfl) (fun _ _ _ h => h) rfl ht hS (wanted_yes rfl ht rfl ((decide_eq_true h20))) (fun w hm => ev_load ht rfl rfl sc_2 (hm.blk_cell 3 rfl rfl)) ?_
            intro a ht
            refine wph_take (i := 7) rfl (by kernel_rfl) (by kernel_rfl) (by kernel_rfl) (fun _ _ _ h => h) rfl ht hS (wanted_yes rfl ht rfl ((decide_eq_true h20))) (fun w hm => ev_move ht rfl rfl) ?_
            intro a ht
            refine wph_take (i := 8) rfl (by kernel_rfl) (by kernel_rfl) (by kernel_rfl) (fun _ _ _ h => h) rfl ht hS (wanted_yes rfl ht rfl ((decide_eq_true h20))) (fun w hm => ev_load ht rfl rfl sc_2 (hm.blk_cell 3 rfl rfl)) ?_
            intro a ht
            obtain ⟨t21, et21, H⟩ := bind_get H
            refine wph_take (i := 9) rfl (by kernel_rfl) (by kernel_rfl) (by kernel_rfl) (fun _ _ _ h => h) rfl ht hS (wanted_yes rfl ht rfl ((decide_eq_true h20))) (fun w hm => ev_index_ints ht rfl rfl rfl so_25 (hm.fact (φ := IntsAt A c m sizes) 0 rfl) et21) ?_
            intro a ht
            refine wph_take (i := 10) rfl (by kernel_rfl) (by kernel_rfl) (by kernel_rfl) (fun _ _ _ h => h) rfl ht hS (wanted_yes rfl ht rfl ((decide_eq_true h20))) (fun w hm => ev_load ht rfl rfl sc_2 (RowAt.cell (hm.fact (φ := IntsAt A c m sizes) 0 rfl) (ints_get et21) rfl)) ?_
            intro a ht
            refine wph_take (i := 11) rfl (by kernel_rfl) (by kernel_rfl) (by kernel_rfl) (fun _ _ _ h => h) rfl ht hS (wanted_yes rfl ht rfl ((decide_eq_true h20))) (fun w hm => ev_arith ht rfl rfl rfl rfl) ?_
            intro a ht
            refine wph_take (i := 12) rfl (by kernel_rfl) (by kernel_rfl) (by kernel_rfl) (fun _ _ _ h => h) rfl ht hS (wanted_yes rfl ht rfl ((decide_eq_true h20))) (fun w hm => ev_move ht rfl rfl) ?_
            intro a ht
            refine wph_one (i := 13) (by kernel_rfl) (wph_step rfl ?_)
            refine wpl_yes rfl ht rfl ((decide_eq_true h20)) ?_
            obtain ⟨t22, et22, H⟩ := bind_get H
            have hcall := impl_Colouring_hasClique.calls q12 _ _ b1 A16 c17 m18 x xs2_6 (w64 (t21 - 2)) t15 _ ((fun (hq : Ms _ _ _ ([.blk b1 28 (Col.cells x)] ++ [.vec A16 c17 2 1 m18 (ints t15), .blk b8 2 [.int .i64 xs0_6], .blk b14 2 [.int .i64 xs2_6], .blk bs1_1 2 [.int .i64 xs1_2], .vec As2_1 cs2_2 25 1 ms2_3 vss2_5]) _ _) => hq.lend (φp := [IntsAt A16 c17 m18 t15]) (allRO_cons (hq.lendVec 0 rfl) (allRO_nil))) (hm.pick (own' := [.blk b1 28 (Col.cells x)] ++ [.vec A16 c17 2 1 m18 (ints t15), .blk b8 2 [.int .i64 xs0_6], .blk b14 2 [.int .i64 xs2_6], .blk bs1_1 2 [.int .i64 xs1_2], .vec As2_1 cs2_2 25 1 ms2_3 vss2_5]) [0, 1, 2, 3, 4, 5] rfl (by decide))) et22
            refine wpl_call _ rfl rfl ht rfl rfl rfl rfl can_52 hcall ?_
            clear hcall
            rintro _ w ⟨rfl, hpost⟩ a ht
            replace hm := (hm.pick (own' := [.blk b1 28 (Col.cells x)] ++ [.vec A16 c17 2 1 m18 (ints t15), .blk b8 2 [.int .i64 xs0_6], .blk b14 2 [.int .i64 xs2_6], .blk bs1_1 2 [.int .i64 xs1_2], .vec As2_1 cs2_2 25 1 ms2_3 vss2_5]) [0, 1, 2, 3, 4, 5] rfl (by decide)).backL hpost
            clear hpost
            have hS : Ms X (fps []) w0 [.vec A16 c17 2 1 m18 (ints t15), .blk b1 28 (Col.cells x), .blk b8 2 [.int .i64 xs0_6], .blk b14 2 [.int .i64 xs2_6], .blk bs1_1 2 [.int .i64 xs1_2], .vec As2_1 cs2_2 25 1 ms2_3 vss2_5] [IntsAt A c m sizes, AllOwn w0.heap.size 2 vss2_5 ls2_4] w := (hm.pick [1, 0, 2, 3, 4, 5] rfl (by decide)).pickφ [0, 1] rfl
            refine wpList_nil (qn ⟨hS, ?_⟩)
            refine wph_take (i := 14) rfl (by kernel_rfl) (by kernel_rfl) (by kernel_rfl) (fun _ _ _ h => h) rfl ht hS (wanted_yes rfl ht rfl ((decide_eq_true h20))) (fun w hm => ev_not ht rfl rfl) ?_
            intro a ht
            refine wph_take (i := 15) rfl (by kernel_rfl) (by kernel_rfl) (by kernel_rfl) (fun _ _ _ h => h) rfl ht hS (wanted_plain rfl) (fun w hm => ev_pick_yes ht rfl rfl (decide_eq_true h20) rfl) ?_
            intro a ht
            refine wph_done (by kernel_rfl) ?_
            refine then_normal ?_
            by_cases h23 : t22 = true
            · replace H := ite_yes h23 H
              refine wpc_no ht rfl (not_t h23) ?_
              refine wp_skip ?_
              refine blk_normal ?_
              refine then_normal ?_
              refine wpr ?_
              refine wpl rfl rfl ht (ev_arith ht rfl rfl rfl rfl) ?_
              intro a ht
              refine wpl rfl rfl ht (ev_move ht rfl rfl) ?_
              intro a ht
              refine wpList_nil ?_
              exact then_normal ⟨q12, by omega, ls2_4, (w64 (xs2_6 + 1)), As2_1, cs2_2, ms2_3, vss2_5, H, by omega, ht.sub ⟨rfl, rfl, rfl, rfl, rfl, rfl, rfl, rfl, rfl, rfl, rfl, rfl, rfl, rfl, rfl, rfl, rfl, rfl, rfl, rfl, trivial⟩, (hm.pick [4, 2, 5, 0] rfl (by decide)).pickφ [0, 1] rfl⟩
            · replace H := ite_no h23 H
              refine wpc_yes ht rfl (not_f (Bool.eq_false_iff.mpr h23)) ?_
              refine wpr ?_
              refine wpl rfl rfl ht (ev_move ht rfl rfl) ?_
              intro a ht
              refine wpl rfl rfl ht (ev_load ht rfl rfl sc_2 (hm.blk_cell 2 rfl rfl)) ?_
              intro a ht
              refine wpl rfl rfl ht (ev_load ht rfl rfl sc_2 (hm.blk_cell 4 rfl rfl)) ?_
              intro a ht
              refine wpl rfl rfl ht (ev_load ht rfl rfl sc_2 (hm.blk_cell 3 rfl rfl)) ?_
              intro a ht
              refine wpl_build_ints (l := [xs0_6, xs1_2, xs2_6]) rfl rfl ht hm rfl und_25 zo_2 sz1_2 (by decide) rfl rfl rfl ?_
              intro A24 a ht w hm
              replace hm : Ms _ _ _ _ (NewTo A24 3 vss2_5 :: _) w := hm.addφ (hm.newTo 0 1 rfl rfl)
              replace hm : Ms _ _ _ _ (OwnAt w0.heap.size 2 A24 3 3 ([xs0_6, xs1_2, xs2_6]) :: _) w := hm.shutOwn 0 (hm.ownGe 0 (Nat.le_refl _) srcNil rfl) rfl
              replace hm : Ms _ _ _ _ (AllOwn w0.heap.size 2 ([.slice A24 3 3]) ([[xs0_6, xs1_2, xs2_6]]) :: _) w := hm.addφ (allOwn_one (hm.ro 0 rfl))
              refine wpl_buildSlice (vs := [.slice A24 3 3]) rfl rfl ht hm rfl und_38 zo_25 sz1_25 (by decide) rfl rfl rfl ?_
              intro A25 a ht w hm
              obtain ⟨l30, el30, H⟩ := bind_get H
              replace hm : Ms _ _ _ _ (AllOwn w0.heap.size 2 (vss2_5 ++ ([.slice A24 3 3])) l30 :: _) w := hm.addφ (allOwn_append el30 (hm.ro 4 rfl) (hm.ro 0 rfl) (newTo_one (hm.fact (φ := NewTo A24 3 vss2_5) 2 rfl)))
              refine wpl_concat_rowsO (r := l30) 6 0 rfl rfl ht hm rfl ap_38 rfl rfl rfl rfl (hm.rowsOfO 6 5 rfl rfl) (hm.rowsOfO 0 1 rfl rfl) el30 ?_
              intro A27 c28 m29 a ht w hm
              refine wpl rfl rfl ht (ev_assign ht rfl rfl) ?_
              intro a ht
              refine wpList_nil ?_
              refine blk_normal ?_
              refine then_normal ?_
              refine wpr ?_
              refine wpl rfl rfl ht (ev_arith ht rfl rfl rfl rfl) ?_
              intro a ht
              refine wpl rfl rfl ht (ev_move ht rfl rfl) ?_
              intro a ht
              refine wpList_nil ?_
              exact then_normal ⟨q12, by omega, l30, (w64 (xs2_6 + 1)), A27, c28, m29, (vss2_5 ++ ([.slice A24 3 3])), H, by omega, ht.sub ⟨rfl, rfl, rfl, rfl, rfl, rfl, rfl, rfl, rfl, rfl, rfl, rfl, rfl, rfl, rfl, rfl, rfl, rfl, rfl, rfl, trivial⟩, (hm.pick [5, 3, 6, 1] rfl (by decide)).pickφ [4, 0] rfl⟩
          · replace H := ite_no h20 H
            refine wph_pass (i := 6) rfl (by kernel_rfl) (by kernel_rfl) (by kernel_rfl) (fun _ _ _ h => h) rfl ht hS (wanted_no rfl ht rfl (by rw [(decide_eq_false h20)]; decide)) ?_
            intro a ht
            refine wph_pass (i := 7) rfl (by kernel_rfl) (by kernel_rfl) (by kernel_rfl) (fun _ _ _ h => h) rfl ht hS (wanted_no rfl ht rfl (by rw [(decide_eq_false h20)]; decide)) ?_
            intro a ht
            refine wph_pass (i := 8) rfl (by kernel_rfl) (by kernel_rfl) (by kernel_rfl) (fun _ _ _ h => h) rfl ht hS (wanted_no rfl ht rfl (by rw [(decide_eq_false h20)]; decide)) ?_
            intro a ht
            refine wph_pass (i := 9) rfl (by kernel_rfl) (by kernel_rfl) (by kernel_rfl) (fun _ _ _ h => h) rfl ht hS (wanted_no rfl ht rfl (by rw [(decide_eq_false h20)]; decide)) ?_
            intro a ht
            refine wph_pass (i := 10) rfl (by kernel_rfl) (by kernel_rfl) (by kernel_rfl) (fun _ _ _ h => h) rfl ht hS (wanted_no rfl ht rfl (by rw [(decide_eq_false h20)]; decide)) ?_
            intro a ht
            refine wph_pass (i := 11) rfl (by kernel_rfl) (by kernel_rfl) (by kernel_rfl) (fun _ _ _ h => h) rfl ht hS (wanted_no rfl ht rfl (by rw [(decide_eq_false h20)]; decide)) ?_
            intro a ht
            refine wph_pass (i := 12) rfl (by kernel_rfl) (by kernel_rfl) (by kernel_rfl) (fun _ _ _ h => h) rfl ht hS (wanted_no rfl ht rfl (by rw [(decide_eq_false h20)]; decide)) ?_
            intro a ht
            refine wph_pass (i := 13) rfl (by kernel_rfl) (by kernel_rfl) (by kernel_rfl) (fun _ _ _ h => h) rfl ht hS (wanted_no rfl ht rfl (by rw [(decide_eq_false h20)]; decide)) ?_
            intro a ht
            refine wph_pass (i := 14) rfl (by kernel_rfl) (by kernel_rfl) (by kernel_rfl) (fun _ _ _ h => h) rfl ht hS (wanted_no rfl ht rfl (by rw [(decide_eq_false h20)]; decide)) ?_
            intro a ht
            refine wph_take (i := 15) rfl (by kernel_rfl) (by kernel_rfl) (by kernel_rfl) (fun _ _ _ h => h) rfl ht hS (wanted_plain rfl) (fun w hm => ev_pick_no ht rfl rfl (decide_eq_false h20) rfl) ?_
            intro a ht
            refine wph_done (by kernel_rfl) ?_
            refine then_normal ?_
            refine wpc_no ht rfl rfl ?_
            refine wp_skip ?_
            refine blk_normal ?_
            refine then_normal ?_
            refine wpr ?_
            refine wpl rfl rfl ht (ev_arith ht rfl rfl rfl rfl) ?_
            intro a ht
            refine wpl rfl rfl ht (ev_move ht rfl rfl) ?_
            intro a ht
            refine wpList_nil ?_
            exact then_normal ⟨q12, by omega, ls2_4, (w64 (xs2_6 + 1)), As2_1, cs2_2, ms2_3, vss2_5, H, by omega, ht.sub ⟨rfl, rfl, rfl, rfl, rfl, rfl, rfl, rfl, rfl, rfl, rfl, rfl, rfl, rfl, rfl, rfl, rfl, rfl, rfl, rfl, trivial⟩, (hm.pick [4, 2, 5, 0] rfl (by decide)).pickφ [0, 1] rfl⟩
        · replace H := ite_no h13 H
          refine wpc_no ht rfl (decide_eq_false h13) ?_
          refine wp_exit ?_
          refine then_exit ?_
          refine then_exit ?_
          refine blk_hit ?_
          refine blk_normal ?_
          refine then_normal ?_
          refine wp_seq ?_
          refine wp_seq ?_
          refine wpr ?_
          refine wpl rfl rfl ht (ev_load ht rfl rfl sc_2 (hm.blk_cell 0 rfl rfl)) ?_
          intro a ht
          refine wpList_nil ?_
          refine then_normal ?_
          refine wpr ?_
          refine wpl_alloc rfl rfl ht hm rfl zo_2 ?_
          intro b31 a ht w hm
          refine wpl_store_blk 0 rfl rfl ht hm rfl rfl rfl sz1_2 rfl rfl rfl ?_
          intro a ht w hm
          refine wpList_nil ?_
          refine then_normal ?_
          refine wpr ?_
          refine wpl rfl rfl ht (ev_load ht rfl rfl sc_2 (hm.blk_cell 0 rfl rfl)) ?_
          intro a ht
          refine wpl rfl rfl ht (ev_arith ht rfl rfl rfl rfl) ?_
          intro a ht
          refine wpl_store_blk 0 rfl rfl ht hm rfl rfl rfl sz1_2 rfl rfl rfl ?_
          intro a ht w hm
          refine wpList_nil ?_
          replace hm := hm.pick (own' := [.blk b31 2 [.int .i64 (w64 (xs1_2 + 1))], .blk b8 2 [.int .i64 xs0_6], .vec As2_1 cs2_2 25 1 ms2_3 vss2_5, .blk b1 28 (Col.cells x)]) [0, 2, 3, 4] rfl (by decide)
          exact then_normal ⟨q12, by omega, (w64 (xs1_2 + 1)), ls2_4, b31, As2_1, cs2_2, ms2_3, vss2_5, H, by omega, ht.sub ⟨rfl, rfl, rfl, rfl, rfl, rfl, rfl, rfl, rfl, rfl, rfl, rfl, rfl, trivial⟩, (hm.pick [0, 1, 2, 3] rfl (by decide)).pickφ [0, 1] rfl⟩
      · replace H := ite_no h11 H
        refine wpc_no ht rfl (decide_eq_false h11) ?_
        refine wp_exit ?_
        refine then_exit ?_
        refine then_exit ?_
        refine blk_hit ?_
        refine blk_normal ?_
        refine then_normal ?_
        refine wpr ?_
        refine wpl rfl rfl ht (ev_arith ht rfl rfl rfl rfl) ?_
        intro a ht
        refine wpl rfl rfl ht (ev_move ht rfl rfl) ?_
        intro a ht
        refine wpList_nil ?_
        exact then_normal ⟨q10, by omega, ls1_6, (w64 (xs0_6 + 1)), As1_3, cs1_4, ms1_5, vss1_7, H, by omega, ht.sub ⟨rfl, rfl, rfl, rfl, rfl, rfl, rfl, trivial⟩, (hm.pick [2, 3] rfl (by decide)).pickφ [0, 1] rfl⟩
    · replace H := ite_no h7 H
      refine wpc_no ht rfl (decide_eq_false h7) ?_
      refine wp_exit ?_
      refine then_exit ?_
      refine then_exit ?_
      refine blk_hit ?_
      refine then_normal ?_
      refine wp_seq ?_
      refine wpr ?_
      refine wpl rfl rfl ht (ev_move ht rfl rfl) ?_
      intro a ht
      refine wpl rfl rfl ht (ev_assign ht rfl rfl) ?_
      intro a ht
      refine wpl rfl rfl ht (ev_assign ht rfl rfl) ?_
      intro a ht
      refine wpList_nil ?_
      refine then_normal ?_
      refine wp_ret ?_
      have hres := ht.res (P := Try.prog) (w := w) (rs := [.tmp 4, .tmp 5]) (vs := [.slice As0_1 ms0_3 cs0_2, .int .i64 0]) (.tmp rfl (.tmp rfl .nil))
      replace hm := hm.gather (E2 := 2) 0 1 (Nat.le_refl _) rfl rfl
      obtain rfl := Option.some.inj H
      exact leave ht rfl hres ⟨As0_1, cs0_2, ms0_3, vss0_5, rfl, ((hm.pick [0] rfl (by decide)).pickφ [] rfl).post fun _ h => h⟩

/-! ### laws_eqInt64S: function 13 (loop.example/g01362/laws.eqInt64S) -/
def laws_eqInt64S.l0 : Nat → List Int → List Int → Int → Option (Bool)
  | 0, _, _, _ => none
  | q2 + 1, a_, b, xs0_1 => if xs0_1 < (a_.length : Int) then ((getI a_ xs0_1).bind fun t4 => (getI b xs0_1).bind fun t5 => if t4 ≠ t5 then (some false) else (laws_eqInt64S.l0 q2 a_ b (w64 (xs0_1 + 1)))) else (some true)
def laws_eqInt64S.f (k : Nat) (a_ : List Int) (b : List Int) : Option (Bool) := if (a_.length : Int) ≠ (b.length : Int) then (some false) else (laws_eqInt64S.l0 k a_ b 0)
set_option maxRecDepth 100000 in
set_option maxHeartbeats 1000000 in
theorem laws_eqInt64S.calls (k : Nat) (X : List Nat) (w0 : World) (A : Option Addr) (c : Nat) (m : Nat) (A2 : Option Addr) (c2 : Nat) (m2 : Nat) (a_ : List Int) (b : List Int) (r : Bool)
    (hp : Pre X w0 [] [IntsAt A c m a_, IntsAt A2 c2 m2 b]) (H : laws_eqInt64S.f k a_ b = some r) :
    Calls Try.prog 13 [.slice A m c, .slice A2 m2 c2].toArray w0 (Ret fun v w => v = .bool r ∧ Post X (fps []) w0 [] [] w) := by
  unfold laws_eqInt64S.f at H
  refine enterM (n := 26) hp Try.func13 rfl rfl (Nat.le_of_ble_eq_true rfl) fun a w ht hm => ?_
  refine wp_seq ?_
  refine wpr ?_
  refine wpl rfl rfl ht (ev_assign ht rfl rfl) ?_
  intro a ht
  refine wpList_nil ?_
  refine then_normal ?_
  refine wp_seq ?_
  refine wp_seq ?_
  refine wpr ?_
  refine wpl rfl rfl ht (ev_move ht rfl rfl) ?_
  intro a ht
  refine wpl rfl rfl ht (ev_len_of ht rfl rfl und_25 (hm.fact (φ := IntsAt A c m a_) 0 rfl)) ?_
  intro a ht
  refine wpl rfl rfl ht (ev_move ht rfl rfl) ?_
  intro a ht
  refine wpl rfl rfl ht (ev_len_of ht rfl rfl und_25 (hm.fact (φ := IntsAt A2 c2 m2 b) 1 rfl)) ?_
  intro a ht
  refine wpl rfl rfl ht (ev_cmp ht rfl rfl rfl rfl) ?_
  intro a ht
  refine wpList_nil ?_
  refine then_normal ?_
  by_cases h1 : (a_.length : Int) ≠ (b.length : Int)
  · replace H := ite_yes h1 H
    refine wpc_yes ht rfl (decide_eq_true h1) ?_
    refine wp_seq ?_
    refine wpr ?_
    refine wpl rfl rfl ht (ev_assign ht rfl rfl) ?_
    intro a ht
    refine wpList_nil ?_
    refine then_normal ?_
    refine wp_ret ?_
    refine then_ret ?_
    have hres := ht.res (P := Try.prog) (w := w) (rs := [.tmp 4]) (vs := [.bool false]) (.tmp rfl .nil)
    obtain rfl := Option.some.inj H
    exact leave ht rfl hres ⟨rfl, ((hm.pick [] rfl (by decide)).pickφ [] rfl).post fun _ h => h⟩
  · replace H := ite_no h1 H
    refine wpc_no ht rfl (decide_eq_false h1) ?_
    refine wp_skip ?_
    refine then_normal ?_
    refine wp_seq ?_
    refine wp_seq ?_
    refine wpr ?_
    refine wpl rfl rfl ht (ev_assign ht rfl rfl) ?_
    intro a ht
    refine wpList_nil ?_
    refine then_normal ?_
    refine wp_block ?_
    refine wpLoop (fun q a w => ∃ (xs0_1 : Int), laws_eqInt64S.l0 q a_ b xs0_1 = some r ∧ q ≤ k ∧ Tm 26 [(0, .slice A m c), (1, .slice A2 m2 c2), (4, .bool false), (5, .int .i64 xs0_1)] a ∧ Ms X (fps []) w0 [] [IntsAt A c m a_, IntsAt A2 c2 m2 b] w) (k0 := k) ⟨0, H, Nat.le_refl _, ht.sub ⟨rfl, rfl, rfl, rfl, trivial⟩, (hm.pick [] rfl (by decide)).pickφ [0, 1] rfl⟩ ?_
    clear H ht hm
    intro q2 a w hJ
    obtain ⟨xs0_1, H, hqq2, ht, hm⟩ := hJ
    cases q2 with
    | zero => cases H
    | succ q2 =>
    rw [laws_eqInt64S.l0] at H
    refine wp_seq ?_
    refine wp_seq ?_
    refine wpr ?_
    refine wpl rfl rfl ht (ev_move ht rfl rfl) ?_
    intro a ht
    refine wpl rfl rfl ht (ev_move ht rfl rfl) ?_
    intro a ht
    refine wpl rfl rfl ht (ev_len_of ht rfl rfl und_25 (hm.fact (φ := IntsAt A c m a_) 0 rfl)) ?_
    intro a ht
    refine wpl rfl rfl ht (ev_cmp ht rfl rfl rfl rfl) ?_
    intro a ht
    refine wpList_nil ?_
    refine then_normal ?_
    by_cases h3 : xs0_1 < (a_.length : Int)
    · replace H := ite_yes h3 H
      refine wpc_yes ht rfl (decide_eq_true h3) ?_
      refine wp_skip ?_
      refine then_normal ?_
      refine wp_seq ?_
      refine wp_block ?_
      refine wp_seq ?_
      refine wph_begin (fun w => Ms X (fps []) w0 [] [IntsAt A c m a_, IntsAt A2 c2 m2 b] w) mixed ?_
      replace hm := hm.drew
      have hS : Ms X (fps []) w0 [] [IntsAt A c m a_, IntsAt A2 c2 m2 b] w.drew := (hm.pick [] rfl (by decide)).pickφ [0, 1] rfl
      generalize w.drew = w at hm hS ⊢
      refine wph_take (i := 0) rfl (by kernel_rfl) (by kernel_rfl) (by kernel_rfl) (fun _ _ _ h => h) rfl ht hS (wanted_plain rfl) (fun w hm => ev_move ht rfl rfl) ?_
      intro a ht
      refine wph_take (i := 1) rfl (by kernel_rfl) (by kernel_rfl) (by kernel_rfl) (fun _ _ _ h => h) rfl ht hS (wanted_plain rfl) (fun w hm => ev_move ht rfl rfl) ?_
      intro a ht
      obtain ⟨t4, et4, H⟩ := bind_get H
      refine wph_take (i := 2) rfl (by kernel_rfl) (by kernel_rfl) (by kernel_rfl) (fun _ _ _ h => h) rfl ht hS (wanted_plain rfl) (fun w hm => ev_index_ints ht rfl rfl rfl so_25 (hm.fact (φ := IntsAt A c m a_) 0 rfl) et4) ?_
      intro a ht
      refine wph_take (i := 3) rfl (by kernel_rfl) (by kernel_rfl) (by kernel_rfl) (fun _ _ _ h => h) rfl ht hS (wanted_plain rfl) (fun w hm => ev_load ht rfl rfl sc_2 (RowAt.cell (hm.fact (φ := IntsAt A c m a_) 0 rfl) (ints_get et4) rfl)) ?_
      intro a ht
      refine wph_take (i := 4) rfl (by kernel_rfl) (by kernel_rfl) (by kernel_rfl) (fun _ _ _ h => h) rfl ht hS (wanted_plain rfl) (fun w hm => ev_move ht rfl rfl) ?_
      intro a ht
      refine wph_take (i := 5) rfl (by kernel_rfl) (by kernel_rfl) (by kernel_rfl) (fun _ _ _ h => h) rfl ht hS (wanted_plain rfl) (fun w hm => ev_move ht rfl rfl) ?_
      intro a ht
      obtain ⟨t5, et5, H⟩ := bind_get H
      refine wph_take (i := 6) rfl (by kernel_rfl) (by kernel_rfl) (by kernel_rfl) (fun _ _ _ h => h) rfl ht hS (wanted_plain rfl) (fun w hm => ev_index_ints ht rfl rfl rfl so_25 (hm.fact (φ := IntsAt A2 c2 m2 b) 1 rfl) et5) ?_
      intro a ht
      refine wph_take (i := 7) rfl (by kernel_rfl) (by kernel_rfl) (by kernel_rfl) (fun _ _ _ h => h) rfl ht hS (wanted_plain rfl) (fun w hm => ev_load ht rfl rfl sc_2 (RowAt.cell (hm.fact (φ := IntsAt A2 c2 m2 b) 1 rfl) (ints_get et5) rfl)) ?_
      intro a ht
      refine wph_take (i := 8) rfl (by kernel_rfl) (by kernel_rfl) (by kernel_rfl) (fun _ _ _ h => h) rfl ht hS (wanted_plain rfl) (fun w hm => ev_cmp ht rfl rfl rfl rfl) ?_
      intro a ht
      refine wph_done (by kernel_rfl) ?_
      refine then_normal ?_
      by_cases h6 : t4 ≠ t5
      · replace H := ite_yes h6 H
        refine wpc_yes ht rfl (decide_eq_true h6) ?_
        refine wp_seq ?_
        refine wpr ?_
        refine wpl rfl rfl ht (ev_assign ht rfl rfl) ?_
        intro a ht
        refine wpList_nil ?_
        refine then_normal ?_
        refine wp_ret ?_
        refine blk_ret ?_
        refine then_ret ?_
        refine then_ret ?_
        refine blk_ret ?_
        refine then_ret ?_
        have hres := ht.res (P := Try.prog) (w := w) (rs := [.tmp 4]) (vs := [.bool false]) (.tmp rfl .nil)
        obtain rfl := Option.some.inj H
        exact leave ht rfl hres ⟨rfl, ((hm.pick [] rfl (by decide)).pickφ [] rfl).post fun _ h => h⟩
      · replace H := ite_no h6 H
        refine wpc_no ht rfl (decide_eq_false h6) ?_
        refine wp_skip ?_
        refine blk_normal ?_
        refine then_normal ?_
        refine wpr ?_
        refine wpl rfl rfl ht (ev_move ht rfl rfl) ?_
        intro a ht
        refine wpl rfl rfl ht (ev_arith ht rfl rfl rfl rfl) ?_
        intro a ht
        refine wpl rfl rfl ht (ev_assign ht rfl rfl) ?_
        intro a ht
        refine wpList_nil ?_
        exact then_normal ⟨q2, by omega, (w64 (xs0_1 + 1)), H, by omega, ht.sub ⟨rfl, rfl, rfl, rfl, trivial⟩, (hm.pick [] rfl (by decide)).pickφ [0, 1] rfl⟩
    · replace H := ite_no h3 H
      refine wpc_no ht rfl (decide_eq_false h3) ?_
      refine wp_exit ?_
      refine then_exit ?_
      refine then_exit ?_
      refine blk_hit ?_
      refine then_normal ?_
      refine wp_seq ?_
      refine wpr ?_
      refine wpl rfl rfl ht (ev_assign ht rfl rfl) ?_
      intro a ht
      refine wpList_nil ?_
      refine then_normal ?_
      refine wp_ret ?_
      have hres := ht.res (P := Try.prog) (w := w) (rs := [.tmp 4]) (vs := [.bool true]) (.tmp rfl .nil)
      obtain rfl := Option.some.inj H
      exact leave ht rfl hres ⟨rfl, ((hm.pick [] rfl (by decide)).pickφ [] rfl).post fun _ h => h⟩

/-! ### laws_eqInt64SS: function 22 (loop.example/g01362/laws.eqInt64SS) -/
def laws_eqInt64SS.l0 : Nat → List (List Int) → List (List Int) → Int → Option (Bool)
  | 0, _, _, _ => none
  | q2 + 1, a_, b, xs0_1 => if xs0_1 < (a_.length : Int) then ((getR a_ xs0_1).bind fun l4 => (getR b xs0_1).bind fun l9 => (laws_eqInt64S.f q2 l4 l9).bind fun t14 => if t14 = true then (laws_eqInt64SS.l0 q2 a_ b (w64 (xs0_1 + 1))) else (some false)) else (some true)
def laws_eqInt64SS.f (k : Nat) (a_ : List (List Int)) (b : List (List Int)) : Option (Bool) := if (a_.length : Int) ≠ (b.length : Int) then (some false) else (laws_eqInt64SS.l0 k a_ b 0)
set_option maxRecDepth 100000 in
set_option maxHeartbeats 1000000 in
theorem laws_eqInt64SS.calls (k : Nat) (X : List Nat) (w0 : World) (A : Option Addr) (c : Nat) (m : Nat) (vs : List Value) (A2 : Option Addr) (c2 : Nat) (m2 : Nat) (vs2 : List Value) (a_ : List (List Int)) (b : List (List Int)) (r : Bool)
    (hp : Pre X w0 [] [RowsAt A c m vs a_, RowsAt A2 c2 m2 vs2 b]) (H : laws_eqInt64SS.f k a_ b = some r) :
    Calls Try.prog 22 [.slice A m c, .slice A2 m2 c2].toArray w0 (Ret fun v w => v = .bool r ∧ Post X (fps []) w0 [] [] w) := by
  unfold laws_eqInt64SS.f at H
  refine enterM (n := 27) hp Try.func22 rfl rfl (Nat.le_of_ble_eq_true rfl) fun a w ht hm => ?_
  refine wp_seq ?_
  refine wpr ?_
  refine wpl rfl rfl ht (ev_assign ht rfl rfl) ?_
  intro a ht
  refine wpList_nil ?_
  refine then_normal ?_
  refine wp_seq ?_
  refine wp_seq ?_
  refine wpr ?_
  refine wpl rfl rfl ht (ev_move ht rfl rfl) ?_
  intro a ht
  refine wpl rfl rfl ht (ev_len_rows ht rfl rfl und_38 (hm.fact (φ := RowsAt A c m vs a_) 0 rfl)) ?_
  intro a ht
  refine wpl rfl rfl ht (ev_move ht rfl rfl) ?_
  intro a ht
  refine wpl rfl rfl ht (ev_len_rows ht rfl rfl und_38 (hm.fact (φ := RowsAt A2 c2 m2 vs2 b) 1 rfl)) ?_
  intro a ht
  refine wpl rfl rfl ht (ev_cmp ht rfl rfl rfl rfl) ?_
  intro a ht
  refine wpList_nil ?_
  refine then_normal ?_
  by_cases h1 : (a_.length : Int) ≠ (b.length : Int)
  · replace H := ite_yes h1 H
    refine wpc_yes ht rfl (decide_eq_true h1) ?_
    refine wp_seq ?_
    refine wpr ?_
    refine wpl rfl rfl ht (ev_assign ht rfl rfl) ?_
    intro a ht
    refine wpList_nil ?_
    refine then_normal ?_
    refine wp_ret ?_
    refine then_ret ?_
    have hres := ht.res (P := Try.prog) (w := w) (rs := [.tmp 4]) (vs := [.bool false]) (.tmp rfl .nil)
    obtain rfl := Option.some.inj H
    exact leave ht rfl hres ⟨rfl, ((hm.pick [] rfl (by decide)).pickφ [] rfl).post fun _ h => h⟩
  · replace H := ite_no h1 H
    refine wpc_no ht rfl (decide_eq_false h1) ?_
    refine wp_skip ?_
    refine then_normal ?_
    refine wp_seq ?_
    refine wp_seq ?_
    refine wpr ?_
    refine wpl rfl rfl ht (ev_assign ht rfl rfl) ?_
    intro a ht
    refine wpList_nil ?_
    refine then_normal ?_
    refine wp_block ?_
    refine wpLoop (fun q a w => ∃ (xs0_1 : Int), laws_eqInt64SS.l0 q a_ b xs0_1 = some r ∧ q ≤ k ∧ Tm 27 [(0, .slice A m c), (1, .slice A2 m2 c2), (4, .bool false), (5, .int .i64 xs0_1)] a ∧ Ms X (fps []) w0 [] [RowsAt A c m vs a_, RowsAt A2 c2 m2 vs2 b] w) (k0 := k) ⟨0, H, Nat.le_refl _, ht.sub ⟨rfl, rfl, rfl, rfl, trivial⟩, (hm.pick [] rfl (by decide)).pickφ [0, 1] rfl⟩ ?_
    clear H ht hm
    intro q2 a w hJ
    obtain ⟨xs0_1, H, hqq2, ht, hm⟩ := hJ
    cases q2 with
    | zero => cases H
    | succ q2 =>
    rw [laws_eqInt64SS.l0] at H
    refine wp_seq ?_
    refine wp_seq ?_
    refine wpr ?_
    refine wpl rfl rfl ht (ev_move ht rfl rfl) ?_
    intro a ht
    refine wpl rfl rfl ht (ev_move ht rfl rfl) ?_
    intro a ht
    refine wpl rfl rfl ht (ev_len_rows ht rfl rfl und_38 (hm.fact (φ := RowsAt A c m vs a_) 0 rfl)) ?_
    intro a ht
    refine wpl rfl rfl ht (ev_cmp ht rfl rfl rfl rfl) ?_
    intro a ht
    refine wpList_nil ?_
    refine then_normal ?_
    by_cases h3 : xs0_1 < (a_.length : Int)
    · replace H := ite_yes h3 H
      refine wpc_yes ht rfl (decide_eq_true h3) ?_
      refine wp_skip ?_
      refine then_normal ?_
      refine wp_seq ?_
      refine wp_block ?_
      refine wp_seq ?_
      refine wph_begin (fun w => Ms X (fps []) w0 [] [RowsAt A c m vs a_, RowsAt A2 c2 m2 vs2 b] w) mixed ?_
      replace hm := hm.drew
      have hS : Ms X (fps []) w0 [] [RowsAt A c m vs a_, RowsAt A2 c2 m2 vs2 b] w.drew := (hm.pick [] rfl (by decide)).pickφ [0, 1] rfl
      generalize w.drew = w at hm hS ⊢
      refine wph_take (i := 0) rfl (by kernel_rfl) (by kernel_rfl) (by kernel_rfl) (fun _ _ _ h => h) rfl ht hS (wanted_plain rfl) (fun w hm => ev_move ht rfl rfl) ?_
      intro a ht
      refine wph_take (i := 1) rfl (by kernel_rfl) (by kernel_rfl) (by kernel_rfl) (fun _ _ _ h => h) rfl ht hS (wanted_plain rfl) (fun w hm => ev_move ht rfl rfl) ?_
      intro a ht
      obtain ⟨l4, el4, H⟩ := bind_get H
      refine wph_take (i := 2) rfl (by kernel_rfl) (by kernel_rfl) (by kernel_rfl) (fun _ _ _ h => h) rfl ht hS (wanted_plain rfl) (fun w hm => ev_index_rows ht rfl rfl rfl so_38 (hm.fact (φ := RowsAt A c m vs a_) 0 rfl) el4) ?_
      intro a ht
      obtain ⟨A5, c6, m7, hv8, hI⟩ := rowsAt_get (hm.fact (φ := RowsAt A c m vs a_) 0 rfl) el4
      refine wph_take (i := 3) rfl (by kernel_rfl) (by kernel_rfl) (by kernel_rfl) (fun _ _ _ h => h) rfl ht hS (wanted_plain rfl) (fun w hm => ev_load ht rfl rfl sc_25 (RowsAt.cell (hm.fact (φ := RowsAt A c m vs a_) 0 rfl) hv8)) ?_
      intro a ht
      replace hm : Ms _ _ _ _ (IntsAt A5 c6 m7 l4 :: _) w := hm.addφ ((hm.ro 0 rfl).mono fun w h => rowsAt_at h hv8 el4)
      clear hI
      refine wph_take (i := 4) rfl (by kernel_rfl) (by kernel_rfl) (by kernel_rfl) (fun _ _ _ h => h) rfl ht hS (wanted_plain rfl) (fun w hm => ev_move ht rfl rfl) ?_
      intro a ht
      refine wph_take (i := 5) rfl (by kernel_rfl) (by kernel_rfl) (by kernel_rfl) (fun _ _ _ h => h) rfl ht hS (wanted_plain rfl) (fun w hm => ev_move ht rfl rfl) ?_
      intro a ht
      obtain ⟨l9, el9, H⟩ := bind_get H
      refine wph_take (i := 6) rfl (by kernel_rfl) (by kernel_rfl) (by kernel_rfl) (fun _ _ _ h => h) rfl ht hS (wanted_plain rfl) (fun w hm => ev_index_rows ht rfl rfl rfl so_38 (hm.fact (φ := RowsAt A2 c2 m2 vs2 b) 1 rfl) el9) ?_
      intro a ht
      obtain ⟨A10, c11, m12, hv13, hI⟩ := rowsAt_get (hm.fact (φ := RowsAt A2 c2 m2 vs2 b) 2 rfl) el9
      refine wph_take (i := 7) rfl (by kernel_rfl) (by kernel_rfl) (by kernel_rfl) (fun _ _ _ h => h) rfl ht hS (wanted_plain rfl) (fun w hm => ev_load ht rfl rfl sc_25 (RowsAt.cell (hm.fact (φ := RowsAt A2 c2 m2 vs2 b) 1 rfl) hv13)) ?_
      intro a ht
      replace hm : Ms _ _ _ _ (IntsAt A10 c11 m12 l9 :: _) w := hm.addφ ((hm.ro 2 rfl).mono fun w h => rowsAt_at h hv13 el9)
      clear hI
      refine wph_one (i := 8) (by kernel_rfl) (wph_step rfl ?_)
      obtain ⟨t14, et14, H⟩ := bind_get H
      have hcall := laws_eqInt64S.calls q2 _ _ A5 c6 m7 A10 c11 m12 l4 l9 _ ((fun (hq : Ms _ _ _ ([] ++ []) _ _) => hq.lend (φp := [IntsAt A5 c6 m7 l4, IntsAt A10 c11 m12 l9]) (allRO_cons (hq.lendFact 1 rfl) (allRO_cons (hq.lendFact 0 rfl) (allRO_nil)))) (hm.pick (own' := [] ++ []) [] rfl (by decide))) et14
      refine wpl_call _ rfl rfl ht rfl rfl rfl rfl can_13 hcall ?_
      clear hcall
      rintro _ w ⟨rfl, hpost⟩ a ht
      replace hm := (hm.pick (own' := [] ++ []) [] rfl (by decide)).backL hpost
      clear hpost
      have hS : Ms X (fps []) w0 [] [RowsAt A c m vs a_, RowsAt A2 c2 m2 vs2 b] w := (hm.pick [] rfl (by decide)).pickφ [2, 3] rfl
      refine wpList_nil (qn ⟨hS, ?_⟩)
      refine wph_take (i := 9) rfl (by kernel_rfl) (by kernel_rfl) (by kernel_rfl) (fun _ _ _ h => h) rfl ht hS (wanted_plain rfl) (fun w hm => ev_not ht rfl rfl) ?_
      intro a ht
      refine wph_done (by kernel_rfl) ?_
      refine then_normal ?_
      by_cases h15 : t14 = true
      · replace H := ite_yes h15 H
        refine wpc_no ht rfl (not_t h15) ?_
        refine wp_skip ?_
        refine blk_normal ?_
        refine then_normal ?_
        refine wpr ?_
        refine wpl rfl rfl ht (ev_move ht rfl rfl) ?_
        intro a ht
        refine wpl rfl rfl ht (ev_arith ht rfl rfl rfl rfl) ?_
        intro a ht
        refine wpl rfl rfl ht (ev_assign ht rfl rfl) ?_
        intro a ht
        refine wpList_nil ?_
        exact then_normal ⟨q2, by omega, (w64 (xs0_1 + 1)), H, by omega, ht.sub ⟨rfl, rfl, rfl, rfl, trivial⟩, (hm.pick [] rfl (by decide)).pickφ [2, 3] rfl⟩
      · replace H := ite_no h15 H
        refine wpc_yes ht rfl (not_f (Bool.eq_false_iff.mpr h15)) ?_
        refine wp_seq ?_
        refine wpr ?_
        refine wpl rfl rfl ht (ev_assign ht rfl rfl) ?_
        intro a ht
        refine wpList_nil ?_
        refine then_normal ?_
        refine wp_ret ?_
        refine blk_ret ?_
        refine then_ret ?_
        refine then_ret ?_
        refine blk_ret ?_
        refine then_ret ?_
        have hres := ht.res (P := Try.prog) (w := w) (rs := [.tmp 4]) (vs := [.bool false]) (.tmp rfl .nil)
        obtain rfl := Option.some.inj H
        exact leave ht rfl hres ⟨rfl, ((hm.pick [] rfl (by decide)).pickφ [] rfl).post fun _ h => h⟩
    · replace H := ite_no h3 H
      refine wpc_no ht rfl (decide_eq_false h3) ?_
      refine wp_exit ?_
      refine then_exit ?_
      refine then_exit ?_
      refine blk_hit ?_
      refine then_normal ?_
      refine wp_seq ?_
      refine wpr ?_
      refine wpl rfl rfl ht (ev_assign ht rfl rfl) ?_
      intro a ht
      refine wpList_nil ?_
      refine then_normal ?_
      refine wp_ret ?_
      have hres := ht.res (P := Try.prog) (w := w) (rs := [.tmp 4]) (vs := [.bool true]) (.tmp rfl .nil)
      obtain rfl := Option.some.inj H
      exact leave ht rfl hres ⟨rfl, ((hm.pick [] rfl (by decide)).pickφ [] rfl).post fun _ h => h⟩

end Go.Proofs.Ytocjhmeekecdiaa.G
