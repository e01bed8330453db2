/- What each Go function computes, as a Lean function, and the proof that it does: written by a program of this session (wip/gen), part 7. -/
import Derived.Test.YtocjhmeekecdiaaGFnExactFreeChanges6
namespace Go.Proofs.Ytocjhmeekecdiaa.G
open Go Go.RowKit Go.Proofs.Ytocjhmeekecdiaa.K
set_option linter.unusedVariables false
set_option linter.unusedSimpArgs false

/-! ### impl_Colouring_extendingCode__always: function 32 ((*loop.example/g01362/impl.Colouring).extendingCode) -/
def impl_Colouring_extendingCode__always.f (k : Nat) (x : Col) (sizes : List Int) (most : Int) : Option (Int) := (impl_Colouring_sizesCode__always.f k x sizes).bind fun t1 => if t1 ≠ 0 then (some t1) else ((impl_Colouring_avoids.f k x sizes).bind fun t3 => if t3 = true then (if x.p > most then (some 3) else (some 0)) else (some 5))
set_option maxRecDepth 100000 in
set_option maxHeartbeats 1000000 in
theorem impl_Colouring_extendingCode__always.calls (k : Nat) (X : List Nat) (w0 : World) (b : Nat) (A : Option Addr) (c : Nat) (m : Nat) (x : Col) (sizes : List Int) (most : Int) (r : Int)
    (hp : Pre X w0 [.blk b 28 (Col.cells x)] [IntsAt A c m sizes]) (H : impl_Colouring_extendingCode__always.f k x sizes most = some r) :
    Calls Try.prog 32 [.pointer (some ⟨b, 0, none⟩), .slice A m c, .func (.func 33) #[] #[], .int .i64 most].toArray w0 (Ret fun v w => v = .int .i64 r ∧ Post X (fps [.blk b 28 (Col.cells x)]) w0 [.blk b 28 (Col.cells x)] [] w) := by
  unfold impl_Colouring_extendingCode__always.f at H
  refine enterM (n := 30) hp Try.func32 rfl rfl (Nat.le_of_ble_eq_true rfl) fun a w ht hm => ?_
  refine wp_seq ?_
  refine wpr ?_
  refine wpl rfl rfl ht (ev_assign ht rfl rfl) ?_
  intro a ht
  refine wpList_nil ?_
  refine then_normal ?_
  refine wp_seq ?_
  refine wpr ?_
  refine wpl rfl rfl ht (ev_move ht rfl rfl) ?_
  intro a ht
  refine wpl rfl rfl ht (ev_move ht rfl rfl) ?_
  intro a ht
  refine wpl rfl rfl ht (ev_move ht rfl rfl) ?_
  intro a ht
  obtain ⟨t1, et1, H⟩ := bind_get H
  have hcall := impl_Colouring_sizesCode__always.calls k _ _ b A c m x sizes _ ((fun (hq : Ms _ _ _ ([.blk b 28 (Col.cells x)] ++ []) _ _) => hq.lend (φp := [IntsAt A c m sizes]) (allRO_cons (hq.lendFact 0 rfl) (allRO_nil))) (hm.pick (own' := [.blk b 28 (Col.cells x)] ++ []) [0] rfl (by decide))) et1
  refine wpl_call _ rfl rfl ht rfl rfl rfl rfl can_43 hcall ?_
  clear hcall
  rintro _ w ⟨rfl, hpost⟩ a ht
  replace hm := (hm.pick (own' := [.blk b 28 (Col.cells x)] ++ []) [0] rfl (by decide)).backL hpost
  clear hpost
  refine wpl rfl rfl ht (ev_assign ht rfl rfl) ?_
  intro a ht
  refine wpList_nil ?_
  refine then_normal ?_
  refine wp_seq ?_
  refine wp_block ?_
  refine wp_seq ?_
  refine wpr ?_
  refine wpl rfl rfl ht (ev_move ht rfl rfl) ?_
  intro a ht
  refine wpl rfl rfl ht (ev_cmp ht rfl rfl rfl rfl) ?_
  intro a ht
  refine wpl rfl rfl ht (ev_assign ht rfl rfl) ?_
  intro a ht
  refine wpList_nil ?_
  refine then_normal ?_
  by_cases h2 : t1 ≠ 0
  · replace H := ite_yes h2 H
    refine wpc_yes ht rfl (decide_eq_true h2) ?_
    refine wp_seq ?_
    refine wpr ?_
    refine wpl rfl rfl ht (ev_move ht rfl rfl) ?_
    intro a ht
    refine wpl rfl rfl ht (ev_assign ht rfl rfl) ?_
    intro a ht
    refine wpList_nil ?_
    refine then_normal ?_
    refine wp_ret ?_
    refine blk_ret ?_
    refine then_ret ?_
    have hres := ht.res (P := Try.prog) (w := w) (rs := [.tmp 8]) (vs := [.int .i64 t1]) (.tmp rfl .nil)
    obtain rfl := Option.some.inj H
    exact leave ht rfl hres ⟨rfl, ((hm.pick [0] rfl (by decide)).pickφ [] rfl).post fun _ h => h⟩
  · replace H := ite_no h2 H
    refine wpc_no ht rfl (decide_eq_false h2) ?_
    refine wp_seq ?_
    refine wpr ?_
    refine wpl rfl rfl ht (ev_move ht rfl rfl) ?_
    intro a ht
    refine wpl rfl rfl ht (ev_move ht rfl rfl) ?_
    intro a ht
    obtain ⟨t3, et3, H⟩ := bind_get H
    have hcall := impl_Colouring_avoids.calls k _ _ b A c m x sizes _ ((fun (hq : Ms _ _ _ ([.blk b 28 (Col.cells x)] ++ []) _ _) => hq.lend (φp := [IntsAt A c m sizes]) (allRO_cons (hq.lendFact 0 rfl) (allRO_nil))) (hm.pick (own' := [.blk b 28 (Col.cells x)] ++ []) [0] rfl (by decide))) et3
    refine wpl_call _ rfl rfl ht rfl rfl rfl rfl can_42 hcall ?_
    clear hcall
    rintro _ w ⟨rfl, hpost⟩ a ht
    replace hm := (hm.pick (own' := [.blk b 28 (Col.cells x)] ++ []) [0] rfl (by decide)).backL hpost
    clear hpost
    refine wpl rfl rfl ht (ev_not ht rfl rfl) ?_
    intro a ht
    refine wpl rfl rfl ht (ev_assign ht rfl rfl) ?_
    intro a ht
    refine wpList_nil ?_
    refine then_normal ?_
    by_cases h4 : t3 = true
    · replace H := ite_yes h4 H
      refine wpc_no ht rfl (not_t h4) ?_
      refine wp_seq ?_
      refine wpr ?_
      refine wpl rfl rfl ht (ev_move ht rfl rfl) ?_
      intro a ht
      refine wpl rfl rfl ht (ev_nilCheck ht rfl rfl) ?_
      intro a ht
      refine wpl rfl rfl ht (ev_fieldAddr ht rfl rfl fo_28_0) ?_
      intro a ht
      refine wpl rfl rfl ht (ev_load ht rfl rfl sc_2 (hm.blk_cell 0 rfl rfl)) ?_
      intro a ht
      refine wpl rfl rfl ht (ev_move ht rfl rfl) ?_
      intro a ht
      refine wpl rfl rfl ht (ev_cmp ht rfl rfl rfl rfl) ?_
      intro a ht
      refine wpl rfl rfl ht (ev_assign ht rfl rfl) ?_
      intro a ht
      refine wpList_nil ?_
      refine then_normal ?_
      by_cases h5 : x.p > most
      · replace H := ite_yes h5 H
        refine wpc_yes ht rfl (decide_eq_true h5) ?_
        refine wp_seq ?_
        refine wpr ?_
        refine wpl rfl rfl ht (ev_assign ht rfl rfl) ?_
        intro a ht
        refine wpList_nil ?_
        refine then_normal ?_
        refine wp_ret ?_
        refine blk_ret ?_
        refine then_ret ?_
        have hres := ht.res (P := Try.prog) (w := w) (rs := [.tmp 8]) (vs := [.int .i64 3]) (.tmp rfl .nil)
        obtain rfl := Option.some.inj H
        exact leave ht rfl hres ⟨rfl, ((hm.pick [0] rfl (by decide)).pickφ [] rfl).post fun _ h => h⟩
      · replace H := ite_no h5 H
        refine wpc_no ht rfl (decide_eq_false h5) ?_
        refine wp_skip ?_
        refine blk_normal ?_
        refine then_normal ?_
        refine wp_seq ?_
        refine wpr ?_
        refine wpl rfl rfl ht (ev_assign ht rfl rfl) ?_
        intro a ht
        refine wpList_nil ?_
        refine then_normal ?_
        refine wp_ret ?_
        have hres := ht.res (P := Try.prog) (w := w) (rs := [.tmp 8]) (vs := [.int .i64 0]) (.tmp rfl .nil)
        obtain rfl := Option.some.inj H
        exact leave ht rfl hres ⟨rfl, ((hm.pick [0] rfl (by decide)).pickφ [] rfl).post fun _ h => h⟩
    · replace H := ite_no h4 H
      refine wpc_yes ht rfl (not_f (Bool.eq_false_iff.mpr h4)) ?_
      refine wp_seq ?_
      refine wpr ?_
      refine wpl rfl rfl ht (ev_assign ht rfl rfl) ?_
      intro a ht
      refine wpList_nil ?_
      refine then_normal ?_
      refine wp_ret ?_
      refine blk_ret ?_
      refine then_ret ?_
      have hres := ht.res (P := Try.prog) (w := w) (rs := [.tmp 8]) (vs := [.int .i64 5]) (.tmp rfl .nil)
      obtain rfl := Option.some.inj H
      exact leave ht rfl hres ⟨rfl, ((hm.pick [0] rfl (by decide)).pickφ [] rfl).post fun _ h => h⟩

/-! ### impl_FreeChanges_1: function 49 (loop.example/g01362/impl.FreeChanges$1) -/
def impl_FreeChanges_1.f (p : Int) (x : Col) (x2 : Int) (x3 : Int) (x4 : Int) : Option (Bool) := (impl_Colouring_joins.f x x2 p x3).bind fun t1 => if t1 = true then ((impl_Colouring_joins.f x x4 p x3).bind fun t3 => some t3) else (some false)
set_option maxRecDepth 100000 in
set_option maxHeartbeats 1000000 in
theorem impl_FreeChanges_1.calls (X : List Nat) (w0 : World) (b : Nat) (b2 : Nat) (b3 : Nat) (b4 : Nat) (p : Int) (x : Col) (x2 : Int) (x3 : Int) (x4 : Int) (r : Bool)
    (hp : Pre X w0 [.blk b 28 (Col.cells x), .blk b2 2 [.int .i64 x2], .blk b3 2 [.int .i64 x3], .blk b4 2 [.int .i64 x4]] []) (H : impl_FreeChanges_1.f p x x2 x3 x4 = some r) :
    Calls Try.prog 49 [.int .i64 p, .pointer (some ⟨b, 0, none⟩), .pointer (some ⟨b2, 0, none⟩), .pointer (some ⟨b3, 0, none⟩), .pointer (some ⟨b4, 0, none⟩)].toArray w0 (Ret fun v w => v = .bool r ∧ Post X (fps [.blk b 28 (Col.cells x), .blk b2 2 [.int .i64 x2], .blk b3 2 [.int .i64 x3], .blk b4 2 [.int .i64 x4]]) w0 [.blk b 28 (Col.cells x), .blk b2 2 [.int .i64 x2], .blk b3 2 [.int .i64 x3], .blk b4 2 [.int .i64 x4]] [] w) := by
  unfold impl_FreeChanges_1.f at H
  refine enterM (n := 17) hp Try.func49 rfl rfl (Nat.le_of_ble_eq_true rfl) fun a w ht hm => ?_
  refine wp_seq ?_
  refine wpr ?_
  refine wpl rfl rfl ht (ev_assign ht rfl rfl) ?_
  intro a ht
  refine wpList_nil ?_
  refine then_normal ?_
  refine wp_seq ?_
  refine wpr ?_
  refine wpl rfl rfl ht (ev_load ht rfl rfl sc_2 (hm.blk_cell 1 rfl rfl)) ?_
  intro a ht
  refine wpl rfl rfl ht (ev_move ht rfl rfl) ?_
  intro a ht
  refine wpl rfl rfl ht (ev_load ht rfl rfl sc_2 (hm.blk_cell 2 rfl rfl)) ?_
  intro a ht
  obtain ⟨t1, et1, H⟩ := bind_get H
  have hcall := impl_Colouring_joins.calls _ _ b x x2 p x3 _ ((fun (hq : Ms _ _ _ ([.blk b 28 (Col.cells x)] ++ [.blk b2 2 [.int .i64 x2], .blk b3 2 [.int .i64 x3], .blk b4 2 [.int .i64 x4]]) _ _) => hq.lend (φp := []) (allRO_nil)) (hm.pick (own' := [.blk b 28 (Col.cells x)] ++ [.blk b2 2 [.int .i64 x2], .blk b3 2 [.int .i64 x3], .blk b4 2 [.int .i64 x4]]) [0, 1, 2, 3] rfl (by decide))) et1
  refine wpl_call _ rfl rfl ht rfl rfl rfl rfl can_50 hcall ?_
  clear hcall
  rintro _ w ⟨rfl, hpost⟩ a ht
  replace hm := (hm.pick (own' := [.blk b 28 (Col.cells x)] ++ [.blk b2 2 [.int .i64 x2], .blk b3 2 [.int .i64 x3], .blk b4 2 [.int .i64 x4]]) [0, 1, 2, 3] rfl (by decide)).backL hpost
  clear hpost
  refine wpl rfl rfl ht (ev_move ht rfl rfl) ?_
  intro a ht
  by_cases h2 : t1 = true
  · replace H := ite_yes h2 H
    refine wpl_yes rfl ht rfl (h2) ?_
    refine wpl rfl rfl ht (ev_load ht rfl rfl sc_2 (hm.blk_cell 3 rfl rfl)) ?_
    intro a ht
    refine wpl_yes rfl ht rfl (h2) ?_
    refine wpl rfl rfl ht (ev_move ht rfl rfl) ?_
    intro a ht
    refine wpl_yes rfl ht rfl (h2) ?_
    refine wpl rfl rfl ht (ev_load ht rfl rfl sc_2 (hm.blk_cell 2 rfl rfl)) ?_
    intro a ht
    refine wpl_yes rfl ht rfl (h2) ?_
    obtain ⟨t3, et3, H⟩ := bind_get H
    have hcall := impl_Colouring_joins.calls _ _ b x x4 p x3 _ ((fun (hq : Ms _ _ _ ([.blk b 28 (Col.cells x)] ++ [.blk b2 2 [.int .i64 x2], .blk b3 2 [.int .i64 x3], .blk b4 2 [.int .i64 x4]]) _ _) => hq.lend (φp := []) (allRO_nil)) (hm.pick (own' := [.blk b 28 (Col.cells x)] ++ [.blk b2 2 [.int .i64 x2], .blk b3 2 [.int .i64 x3], .blk b4 2 [.int .i64 x4]]) [0, 1, 2, 3] rfl (by decide))) et3
    refine wpl_call _ rfl rfl ht rfl rfl rfl rfl can_50 hcall ?_
    clear hcall
    rintro _ w ⟨rfl, hpost⟩ a ht
    replace hm := (hm.pick (own' := [.blk b 28 (Col.cells x)] ++ [.blk b2 2 [.int .i64 x2], .blk b3 2 [.int .i64 x3], .blk b4 2 [.int .i64 x4]]) [0, 1, 2, 3] rfl (by decide)).backL hpost
    clear hpost
    refine wpl rfl rfl ht (ev_pick_yes ht rfl rfl h2 rfl) ?_
    intro a ht
    refine wpl rfl rfl ht (ev_assign ht rfl rfl) ?_
    intro a ht
    refine wpList_nil ?_
    refine then_normal ?_
    refine wp_ret ?_
    have hres := ht.res (P := Try.prog) (w := w) (rs := [.tmp 6]) (vs := [.bool t3]) (.tmp rfl .nil)
    obtain rfl := Option.some.inj H
    exact leave ht rfl hres ⟨rfl, ((hm.pick [0, 1, 2, 3] rfl (by decide)).pickφ [] rfl).post fun _ h => h⟩
  · replace H := ite_no h2 H
    refine wpl_no rfl rfl ht rfl (by rw [(Bool.eq_false_iff.mpr h2)]; decide) ?_
    intro a ht
    refine wpl_no rfl rfl ht rfl (by rw [(Bool.eq_false_iff.mpr h2)]; decide) ?_
    intro a ht
    refine wpl_no rfl rfl ht rfl (by rw [(Bool.eq_false_iff.mpr h2)]; decide) ?_
    intro a ht
    refine wpl_no rfl rfl ht rfl (by rw [(Bool.eq_false_iff.mpr h2)]; decide) ?_
    intro a ht
    refine wpl rfl rfl ht (ev_pick_no ht rfl rfl (Bool.eq_false_iff.mpr h2) rfl) ?_
    intro a ht
    refine wpl rfl rfl ht (ev_assign ht rfl rfl) ?_
    intro a ht
    refine wpList_nil ?_
    refine then_normal ?_
    refine wp_ret ?_
    have hres := ht.res (P := Try.prog) (w := w) (rs := [.tmp 6]) (vs := [.bool false]) (.tmp rfl .nil)
    obtain rfl := Option.some.inj H
    exact leave ht rfl hres ⟨rfl, ((hm.pick [0, 1, 2, 3] rfl (by decide)).pickφ [] rfl).post fun _ h => h⟩

/-! ### impl_Colouring_that__FreeChanges_1: function 48 ((*loop.example/g01362/impl.Colouring).that) -/
def impl_Colouring_that__FreeChanges_1.l0 : Nat → Col → Int → Int → Int → List Int → Int → Option (List Int)
  | 0, _, _, _, _, _, _ => none
  | q2 + 1, x, so, so2, so3, ls0_4, xs0_5 => if xs0_5 < x.p then ((impl_FreeChanges_1.f xs0_5 x so so2 so3).bind fun t4 => if t4 = true then ((push ls0_4 xs0_5).bind fun l10 => impl_Colouring_that__FreeChanges_1.l0 q2 x so so2 so3 l10 (w64 (xs0_5 + 1))) else (impl_Colouring_that__FreeChanges_1.l0 q2 x so so2 so3 ls0_4 (w64 (xs0_5 + 1)))) else (some ls0_4)
def impl_Colouring_that__FreeChanges_1.f (k : Nat) (x : Col) (so : Int) (so2 : Int) (so3 : Int) : Option (List Int) := impl_Colouring_that__FreeChanges_1.l0 k x so so2 so3 ([] : List Int) 0
set_option maxRecDepth 100000 in
set_option maxHeartbeats 1000000 in
theorem impl_Colouring_that__FreeChanges_1.calls (k : Nat) (X : List Nat) (w0 : World) (b : Nat) (b2 : Nat) (b3 : Nat) (b4 : Nat) (x : Col) (so : Int) (so2 : Int) (so3 : Int) (r : List Int)
    (hp : Pre X w0 [.blk b 28 (Col.cells x), .blk b2 2 [.int .i64 so], .blk b3 2 [.int .i64 so2], .blk b4 2 [.int .i64 so3]] []) (H : impl_Colouring_that__FreeChanges_1.f k x so so2 so3 = some r) :
    Calls Try.prog 48 [.pointer (some ⟨b, 0, none⟩), .func (.func 49) [].toArray [.pointer (some ⟨b, 0, none⟩), .pointer (some ⟨b2, 0, none⟩), .pointer (some ⟨b3, 0, none⟩), .pointer (some ⟨b4, 0, none⟩)].toArray].toArray w0 (Ret fun v w => ∃ (A_0 : Option Addr) (c_0 : Nat) (n_0 : Nat), v = .slice A_0 n_0 c_0 ∧ Post X (fps [.blk b 28 (Col.cells x), .blk b2 2 [.int .i64 so], .blk b3 2 [.int .i64 so2], .blk b4 2 [.int .i64 so3]]) w0 [.vec A_0 c_0 2 1 n_0 (ints r), .blk b 28 (Col.cells x), .blk b2 2 [.int .i64 so], .blk b3 2 [.int .i64 so2], .blk b4 2 [.int .i64 so3]] [] w) := by
  unfold impl_Colouring_that__FreeChanges_1.f at H
  refine enterM (n := 24) hp Try.func48 rfl rfl (Nat.le_of_ble_eq_true rfl) fun a w ht hm => ?_
  refine wp_seq ?_
  refine wpr ?_
  refine wpl rfl rfl ht (ev_assign ht rfl rfl) ?_
  intro a ht
  refine wpList_nil ?_
  refine then_normal ?_
  refine wp_seq ?_
  refine wpr ?_
  refine wpl_build_ints (l := ([] : List Int)) rfl rfl ht hm rfl und_25 zo_2 sz1_2 (by decide) rfl rfl rfl ?_
  intro A1 a ht w hm
  refine wpl rfl rfl ht (ev_assign ht rfl rfl) ?_
  intro a ht
  refine wpList_nil ?_
  refine then_normal ?_
  refine wp_seq ?_
  refine wp_seq ?_
  refine wpr ?_
  refine wpl rfl rfl ht (ev_move ht rfl rfl) ?_
  intro a ht
  refine wpl rfl rfl ht (ev_nilCheck ht rfl rfl) ?_
  intro a ht
  refine wpl rfl rfl ht (ev_fieldAddr ht rfl rfl fo_28_0) ?_
  intro a ht
  refine wpl rfl rfl ht (ev_load ht rfl rfl sc_2 (hm.blk_cell 1 rfl rfl)) ?_
  intro a ht
  refine wpl rfl rfl ht (ev_move ht rfl rfl) ?_
  intro a ht
  refine wpList_nil ?_
  refine then_normal ?_
  refine wp_block ?_
  refine wpLoop (fun q a w => ∃ (ls0_4 : List Int) (xs0_5 : Int) (As0_1 : Option Addr) (cs0_2 : Nat) (ms0_3 : Nat), impl_Colouring_that__FreeChanges_1.l0 q x so so2 so3 ls0_4 xs0_5 = some r ∧ q ≤ k ∧ Tm 24 [(1, .func (.func 49) [].toArray [.pointer (some ⟨b, 0, none⟩), .pointer (some ⟨b2, 0, none⟩), .pointer (some ⟨b3, 0, none⟩), .pointer (some ⟨b4, 0, none⟩)].toArray), (4, .slice none 0 0), (5, .slice As0_1 ms0_3 cs0_2), (11, .int .i64 x.p), (12, .int .i64 xs0_5)] a ∧ Ms X (fps [.blk b 28 (Col.cells x), .blk b2 2 [.int .i64 so], .blk b3 2 [.int .i64 so2], .blk b4 2 [.int .i64 so3]]) w0 [.vec As0_1 cs0_2 2 1 ms0_3 (ints ls0_4), .blk b 28 (Col.cells x), .blk b2 2 [.int .i64 so], .blk b3 2 [.int .i64 so2], .blk b4 2 [.int .i64 so3]] [] w) (k0 := k) ⟨([] : List Int), 0, A1, 0, 0, H, Nat.le_refl _, ht.sub ⟨rfl, rfl, rfl, rfl, rfl, trivial⟩, (hm.pick [0, 1, 2, 3, 4] rfl (by decide)).pickφ [] rfl⟩ ?_
  clear H ht hm
  intro q2 a w hJ
  obtain ⟨ls0_4, xs0_5, As0_1, cs0_2, ms0_3, H, hqq2, ht, hm⟩ := hJ
  cases q2 with
  | zero => cases H
  | succ q2 =>
  rw [impl_Colouring_that__FreeChanges_1.l0] at H
  refine wp_seq ?_
  refine wpr ?_
  refine wpl rfl rfl ht (ev_cmp ht rfl rfl rfl rfl) ?_
  intro a ht
  refine wpList_nil ?_
  refine then_normal ?_
  refine wp_seq ?_
  by_cases h3 : xs0_5 < x.p
  · replace H := ite_yes h3 H
    refine wpc_yes ht rfl (decide_eq_true h3) ?_
    refine wp_skip ?_
    refine then_normal ?_
    refine wp_seq ?_
    refine wp_block ?_
    refine wp_seq ?_
    refine wpr ?_
    refine wpl rfl rfl ht (ev_move ht rfl rfl) ?_
    intro a ht
    refine wpl rfl rfl ht (ev_assign ht rfl rfl) ?_
    intro a ht
    refine wpList_nil ?_
    refine then_normal ?_
    refine wp_seq ?_
    refine wpr ?_
    refine wpl rfl rfl ht (ev_move ht rfl rfl) ?_
    intro a ht
    refine wpl rfl rfl ht (ev_move ht rfl rfl) ?_
    intro a ht
    obtain ⟨t4, et4, H⟩ := bind_get H
    have hcall := impl_FreeChanges_1.calls _ _ b b2 b3 b4 xs0_5 x so so2 so3 _ ((fun (hq : Ms _ _ _ ([.blk b 28 (Col.cells x), .blk b2 2 [.int .i64 so], .blk b3 2 [.int .i64 so2], .blk b4 2 [.int .i64 so3]] ++ [.vec As0_1 cs0_2 2 1 ms0_3 (ints ls0_4)]) _ _) => hq.lend (φp := []) (allRO_nil)) (hm.pick (own' := [.blk b 28 (Col.cells x), .blk b2 2 [.int .i64 so], .blk b3 2 [.int .i64 so2], .blk b4 2 [.int .i64 so3]] ++ [.vec As0_1 cs0_2 2 1 ms0_3 (ints ls0_4)]) [1, 2, 3, 4, 0] rfl (by decide))) et4
    refine wpl_call _ rfl rfl ht rfl rfl rfl rfl can_49 hcall ?_
    clear hcall
    rintro _ w ⟨rfl, hpost⟩ a ht
    replace hm := (hm.pick (own' := [.blk b 28 (Col.cells x), .blk b2 2 [.int .i64 so], .blk b3 2 [.int .i64 so2], .blk b4 2 [.int .i64 so3]] ++ [.vec As0_1 cs0_2 2 1 ms0_3 (ints ls0_4)]) [1, 2, 3, 4, 0] rfl (by decide)).backL hpost
    clear hpost
    refine wpList_nil ?_
    refine then_normal ?_
    by_cases h5 : t4 = true
    · replace H := ite_yes h5 H
      refine wpc_yes ht rfl h5 ?_
      refine wpr ?_
      refine wpl rfl rfl ht (ev_move ht rfl rfl) ?_
      intro a ht
      refine wpl rfl rfl ht (ev_move ht rfl rfl) ?_
      intro a ht
      refine wpl_build_ints (l := [xs0_5]) rfl rfl ht hm rfl und_25 zo_2 sz1_2 (by decide) rfl rfl rfl ?_
      intro A6 a ht w hm
      obtain ⟨l10, el10, H⟩ := bind_get H
      refine wpl_push (r := l10) 5 0 rfl rfl ht hm rfl ap_25 rfl rfl rfl rfl el10 ?_
      intro A7 c8 m9 a ht w hm
      refine wpl rfl rfl ht (ev_assign ht rfl rfl) ?_
      intro a ht
      refine wpList_nil ?_
      refine blk_normal ?_
      refine then_normal ?_
      refine wpr ?_
      refine wpl rfl rfl ht (ev_arith ht rfl rfl rfl rfl) ?_
      intro a ht
      refine wpl rfl rfl ht (ev_move ht rfl rfl) ?_
      intro a ht
      refine wpList_nil ?_
      exact then_normal ⟨q2, by omega, l10, (w64 (xs0_5 + 1)), A7, c8, m9, H, by omega, ht.sub ⟨rfl, rfl, rfl, rfl, rfl, trivial⟩, (hm.pick [5, 1, 2, 3, 4] rfl (by decide)).pickφ [] rfl⟩
    · replace H := ite_no h5 H
      refine wpc_no ht rfl (Bool.eq_false_iff.mpr h5) ?_
      refine wp_skip ?_
      refine blk_normal ?_
      refine then_normal ?_
      refine wpr ?_
      refine wpl rfl rfl ht (ev_arith ht rfl rfl rfl rfl) ?_
      intro a ht
      refine wpl rfl rfl ht (ev_move ht rfl rfl) ?_
      intro a ht
      refine wpList_nil ?_
      exact then_normal ⟨q2, by omega, ls0_4, (w64 (xs0_5 + 1)), As0_1, cs0_2, ms0_3, H, by omega, ht.sub ⟨rfl, rfl, rfl, rfl, rfl, trivial⟩, (hm.pick [4, 0, 1, 2, 3] rfl (by decide)).pickφ [] rfl⟩
  · replace H := ite_no h3 H
    refine wpc_no ht rfl (decide_eq_false h3) ?_
    refine wp_exit ?_
    refine then_exit ?_
    refine then_exit ?_
    refine blk_hit ?_
    refine then_normal ?_
    refine wp_seq ?_
    refine wpr ?_
    refine wpl rfl rfl ht (ev_move ht rfl rfl) ?_
    intro a ht
    refine wpl rfl rfl ht (ev_assign ht rfl rfl) ?_
    intro a ht
    refine wpList_nil ?_
    refine then_normal ?_
    refine wp_ret ?_
    have hres := ht.res (P := Try.prog) (w := w) (rs := [.tmp 4]) (vs := [.slice As0_1 ms0_3 cs0_2]) (.tmp rfl .nil)
    obtain rfl := Option.some.inj H
    exact leave ht rfl hres ⟨As0_1, cs0_2, ms0_3, rfl, ((hm.pick [0, 1, 2, 3, 4] rfl (by decide)).pickφ [] rfl).post fun _ h => h⟩

/-! ### impl_Colouring_hasClique: function 52 ((*loop.example/g01362/impl.Colouring).hasClique) -/
mutual
def impl_Colouring_hasClique.l0 : Nat → Col → Int → Int → List Int → Int → Option (Bool)
  | 0, _, _, _, _, _ => none
  | q4 + 1, x, c, m, points, xs0_1 => if xs0_1 < (points.length : Int) then ((getI points xs0_1).bind fun t6 => (guardO (0 ≤ (w64 (xs0_1 + 1)) ∧ (w64 (xs0_1 + 1)) ≤ (points.length : Int) ∧ (points.length : Int) ≤ (points.length : Int))).bind fun _ => impl_Colouring_hasClique.l1 q4 x c m points xs0_1 t6 ([] : List Int) 0) else (some false)
def impl_Colouring_hasClique.l1 : Nat → Col → Int → Int → List Int → Int → Int → List Int → Int → Option (Bool)
  | 0, _, _, _, _, _, _, _, _ => none
  | q10 + 1, x, c, m, points, xs0_1, t6, ls1_4, xs1_5 => if xs1_5 < (((points.take (points.length : Int).toNat).drop (w64 (xs0_1 + 1)).toNat).length : Int) then ((getI ((points.take (points.length : Int).toNat).drop (w64 (xs0_1 + 1)).toNat) xs1_5).bind fun t12 => (impl_Colouring_joins.f x t6 t12 c).bind fun t13 => if t13 = true then ((push ls1_4 t12).bind fun l19 => impl_Colouring_hasClique.l1 q10 x c m points xs0_1 t6 l19 (w64 (xs1_5 + 1))) else (impl_Colouring_hasClique.l1 q10 x c m points xs0_1 t6 ls1_4 (w64 (xs1_5 + 1)))) else ((impl_Colouring_hasClique.f q10 x c (w64 (m - 1)) ls1_4).bind fun t20 => if t20 = true then (some true) else (impl_Colouring_hasClique.l0 q10 x c m points (w64 (xs0_1 + 1))))
def impl_Colouring_hasClique.f : Nat → Col → Int → Int → List Int → Option (Bool)
  | 0, _, _, _, _ => none
  | k + 1, x, c, m, points => if m ≤ 0 then (some true) else ((impl_size_int64.f points).bind fun t2 => if t2 < m then (some false) else (impl_Colouring_hasClique.l0 k x c m points 0))
end
set_option maxRecDepth 100000 in
set_option maxHeartbeats 1000000 in
theorem impl_Colouring_hasClique.calls (k : Nat) (X : List Nat) (w0 : World) (b : Nat) (A : Option Addr) (c2 : Nat) (m2 : Nat) (x : Col) (c : Int) (m : Int) (points : List Int) (r : Bool)
    (hp : Pre X w0 [.blk b 28 (Col.cells x)] [IntsAt A c2 m2 points]) (H : impl_Colouring_hasClique.f k x c m points = some r) :
    Calls Try.prog 52 [.pointer (some ⟨b, 0, none⟩), .int .i64 c, .int .i64 m, .slice A m2 c2].toArray w0 (Ret fun v w => v = .bool r ∧ Post X (fps [.blk b 28 (Col.cells x)]) w0 [.blk b 28 (Col.cells x)] [] w) := by
  induction k using Nat.strongRecOn generalizing X w0 b A c2 m2 x c m points r with
  | _ k ih =>
  cases k with
  | zero => cases H
  | succ k =>
  rw [impl_Colouring_hasClique.f] at H
  refine enterM (n := 54) hp Try.func52 rfl rfl (Nat.le_of_ble_eq_true rfl) fun a w ht hm => ?_
  induction k using Nat.strongRecOn with
  | _ k ih =>
  refine wp_seq ?_
  refine wpr ?_
  refine wpl rfl rfl ht (ev_assign ht rfl rfl) ?_
  intro a ht
  refine wpList_nil ?_
  refine then_normal ?_
  refine wp_seq ?_
  refine wp_seq ?_
  refine wpr ?_
  refine wpl rfl rfl ht (ev_move ht rfl rfl) ?_
  intro a ht
  refine wpl rfl rfl ht (ev_cmp ht rfl rfl rfl rfl) ?_
  intro a ht
  refine wpList_nil ?_
  refine then_normal ?_
  by_cases h1 : m ≤ 0
  · replace H := ite_yes h1 H
    refine wpc_yes ht rfl (decide_eq_true h1) ?_
    refine wp_seq ?_
    refine wpr ?_
    refine wpl rfl rfl ht (ev_assign ht rfl rfl) ?_
    intro a ht
    refine wpList_nil ?_
    refine then_normal ?_
    refine wp_ret ?_
    refine then_ret ?_
    have hres := ht.res (P := Try.prog) (w := w) (rs := [.tmp 8]) (vs := [.bool true]) (.tmp rfl .nil)
    obtain rfl := Option.some.inj H
    exact leave ht rfl hres ⟨rfl, ((hm.pick [0] rfl (by decide)).pickφ [] rfl).post fun _ h => h⟩
  · replace H := ite_no h1 H
    refine wpc_no ht rfl (decide_eq_false h1) ?_
    refine wp_skip ?_
    refine then_normal ?_
    refine wp_seq ?_
    refine wp_seq ?_
    refine wpr ?_
    refine wpl rfl rfl ht (ev_move ht rfl rfl) ?_
    intro a ht
    obtain ⟨t2, et2, H⟩ := bind_get H
    have hcall := impl_size_int64.calls _ _ A c2 m2 points _ ((fun (hq : Ms _ _ _ ([] ++ [.blk b 28 (Col.cells x)]) _ _) => hq.lend (φp := [IntsAt A c2 m2 points]) (allRO_cons (hq.lendFact 0 rfl) (allRO_nil))) (hm.pick (own' := [] ++ [.blk b 28 (Col.cells x)]) [0] rfl (by decide))) et2
    refine wpl_call _ rfl rfl ht rfl rfl rfl rfl can_64 hcall ?_
    clear hcall
    rintro _ w ⟨rfl, hpost⟩ a ht
    replace hm := (hm.pick (own' := [] ++ [.blk b 28 (Col.cells x)]) [0] rfl (by decide)).backL hpost
    clear hpost
    refine wpl rfl rfl ht (ev_move ht rfl rfl) ?_
    intro a ht
    refine wpl rfl rfl ht (ev_cmp ht rfl rfl rfl rfl) ?_
    intro a ht
    refine wpList_nil ?_
    refine then_normal ?_
    by_cases h3 : t2 < m
    · replace H := ite_yes h3 H
      refine wpc_yes ht rfl (decide_eq_true h3) ?_
      refine wp_seq ?_
      refine wpr ?_
      refine wpl rfl rfl ht (ev_assign ht rfl rfl) ?_
      intro a ht
      refine wpList_nil ?_
      refine then_normal ?_
      refine wp_ret ?_
      refine then_ret ?_
      have hres := ht.res (P := Try.prog) (w := w) (rs := [.tmp 8]) (vs := [.bool false]) (.tmp rfl .nil)
      obtain rfl := Option.some.inj H
      exact leave ht rfl hres ⟨rfl, ((hm.pick [0] rfl (by decide)).pickφ [] rfl).post fun _ h => h⟩
    · replace H := ite_no h3 H
      refine wpc_no ht rfl (decide_eq_false h3) ?_
      refine wp_skip ?_
      refine then_normal ?_
      refine wp_seq ?_
      refine wp_seq ?_
      refine wpr ?_
      refine wpl rfl rfl ht (ev_move ht rfl rfl) ?_
      intro a ht
      refine wpl rfl rfl ht (ev_len_of ht rfl rfl und_25 (hm.fact (φ := IntsAt A c2 m2 points) 0 rfl)) ?_
      intro a ht
      refine wpl rfl rfl ht (ev_move ht rfl rfl) ?_
      intro a ht
      refine wpList_nil ?_
      refine then_normal ?_
      refine wp_block ?_
      refine wpLoop (fun q a w => ∃ (xs0_1 : Int), impl_Colouring_hasClique.l0 q x c m points xs0_1 = some r ∧ q ≤ k ∧ Tm 54 [(0, .pointer (some ⟨b, 0, none⟩)), (1, .int .i64 c), (2, .int .i64 m), (3, .slice A m2 c2), (8, .bool false), (20, .slice A m2 c2), (21, .int .i64 (points.length : Int)), (22, .int .i64 xs0_1)] a ∧ Ms X (fps [.blk b 28 (Col.cells x)]) w0 [.blk b 28 (Col.cells x)] [IntsAt A c2 m2 points] w) (k0 := k) ⟨0, H, Nat.le_refl _, ht.sub ⟨rfl, rfl, rfl, rfl, rfl, rfl, rfl, rfl, trivial⟩, (hm.pick [0] rfl (by decide)).pickφ [0] rfl⟩ ?_
      clear H ht hm
      intro q4 a w hJ
      obtain ⟨xs0_1, H, hqq4, ht, hm⟩ := hJ
      cases q4 with
      | zero => cases H
      | succ q4 =>
      rw [impl_Colouring_hasClique.l0] at H
      refine wp_seq ?_
      refine wpr ?_
      refine wpl rfl rfl ht (ev_cmp ht rfl rfl rfl rfl) ?_
      intro a ht
      refine wpList_nil ?_
      refine then_normal ?_
      refine wp_seq ?_
      by_cases h5 : xs0_1 < (points.length : Int)
      · replace H := ite_yes h5 H
        refine wpc_yes ht rfl (decide_eq_true h5) ?_
        refine wp_skip ?_
        refine then_normal ?_
        refine wp_seq ?_
        refine wp_block ?_
        refine wp_seq ?_
        refine wpr ?_
        refine wpl rfl rfl ht (ev_move ht rfl rfl) ?_
        intro a ht
        obtain ⟨t6, et6, H⟩ := bind_get H
        refine wpl rfl rfl ht (ev_index_ints ht rfl rfl rfl so_25 (hm.fact (φ := IntsAt A c2 m2 points) 0 rfl) et6) ?_
        intro a ht
        refine wpl rfl rfl ht (ev_load ht rfl rfl sc_2 (RowAt.cell (hm.fact (φ := IntsAt A c2 m2 points) 0 rfl) (ints_get et6) rfl)) ?_
        intro a ht
        refine wpl rfl rfl ht (ev_assign ht rfl rfl) ?_
        intro a ht
        refine wpl rfl rfl ht (ev_assign ht rfl rfl) ?_
        intro a ht
        refine wpList_nil ?_
        refine then_normal ?_
        refine wp_seq ?_
        refine wpr ?_
        refine wpl_build_ints (l := ([] : List Int)) rfl rfl ht hm rfl und_25 zo_2 sz1_2 (by decide) rfl rfl rfl ?_
        intro A7 a ht w hm
        refine wpl rfl rfl ht (ev_assign ht rfl rfl) ?_
        intro a ht
        refine wpList_nil ?_
        refine then_normal ?_
        refine wp_seq ?_
        refine wp_seq ?_
        refine wpr ?_
        refine wpl rfl rfl ht (ev_move ht rfl rfl) ?_
        intro a ht
        refine wpl rfl rfl ht (ev_move ht rfl rfl) ?_
        intro a ht
        refine wpl rfl rfl ht (ev_arith ht rfl rfl rfl rfl) ?_
        intro a ht
        obtain ⟨u8, eu8, H⟩ := bind_get H
        refine wpl rfl rfl ht (ev_slice_ints (k := .i64) (k' := .i64) (l := points) (i := w64 (xs0_1 + 1)) (j := (points.length : Int)) ht rfl rfl und_25 sz1_2 (hm.fact (φ := IntsAt A c2 m2 points) 0 rfl) (.inr ⟨_, rfl, rfl⟩) (.inl ⟨rfl, rfl⟩) (guardO_get eu8)) ?_
        intro a ht
        replace hm : Ms _ _ _ _ (IntsAt (sliceA A (w64 (xs0_1 + 1)).toNat c2) (c2 - (w64 (xs0_1 + 1)).toNat) ((points.length : Int).toNat - (w64 (xs0_1 + 1)).toNat) ((points.take (points.length : Int).toNat).drop (w64 (xs0_1 + 1)).toNat) :: _) w := hm.addφ ((hm.ro (φ := IntsAt A c2 m2 points) 0 rfl).mono fun w hh => IntsAt.slice hh (guardO_get eu8))
        refine wpl rfl rfl ht (ev_len_of ht rfl rfl und_25 (hm.fact (φ := IntsAt (sliceA A (w64 (xs0_1 + 1)).toNat c2) (c2 - (w64 (xs0_1 + 1)).toNat) ((points.length : Int).toNat - (w64 (xs0_1 + 1)).toNat) ((points.take (points.length : Int).toNat).drop (w64 (xs0_1 + 1)).toNat)) 0 rfl)) ?_
        intro a ht
        refine wpl rfl rfl ht (ev_move ht rfl rfl) ?_
        intro a ht
        refine wpList_nil ?_
        refine then_normal ?_
        refine wp_block ?_
        refine wpLoop (fun q a w => ∃ (ls1_4 : List Int) (xs1_5 : Int) (As1_1 : Option Addr) (cs1_2 : Nat) (ms1_3 : Nat), impl_Colouring_hasClique.l1 q x c m points xs0_1 t6 ls1_4 xs1_5 = some r ∧ q ≤ q4 ∧ Tm 54 [(0, .pointer (some ⟨b, 0, none⟩)), (1, .int .i64 c), (2, .int .i64 m), (3, .slice A m2 c2), (8, .bool false), (9, .int .i64 xs0_1), (10, .int .i64 t6), (11, .slice As1_1 ms1_3 cs1_2), (20, .slice A m2 c2), (21, .int .i64 (points.length : Int)), (22, .int .i64 xs0_1), (23, .bool (decide (xs0_1 < (points.length : Int)))), (24, .int .i64 xs0_1), (25, .pointer (some (eaddr A xs0_1.toNat 1))), (26, .int .i64 t6), (28, .slice A m2 c2), (29, .int .i64 xs0_1), (30, .int .i64 (w64 (xs0_1 + 1))), (31, .slice (sliceA A (w64 (xs0_1 + 1)).toNat c2) ((points.length : Int).toNat - (w64 (xs0_1 + 1)).toNat) (c2 - (w64 (xs0_1 + 1)).toNat)), (32, .int .i64 (((points.take (points.length : Int).toNat).drop (w64 (xs0_1 + 1)).toNat).length : Int)), (33, .int .i64 xs1_5)] a ∧ Ms X (fps [.blk b 28 (Col.cells x)]) w0 [.vec As1_1 cs1_2 2 1 ms1_3 (ints ls1_4), .blk b 28 (Col.cells x)] [IntsAt A c2 m2 points, IntsAt (sliceA A (w64 (xs0_1 + 1)).toNat c2) (c2 - (w64 (xs0_1 + 1)).toNat) ((points.length : Int).toNat - (w64 (xs0_1 + 1)).toNat) ((points.take (points.length : Int).toNat).drop (w64 (xs0_1 + 1)).toNat)] w) (k0 := q4) ⟨([] : List Int), 0, A7, 0, 0, H, Nat.le_refl _, ht.sub ⟨rfl, rfl, rfl, rfl, rfl, rfl, rfl, rfl, rfl, rfl, rfl, rfl, rfl, rfl, rfl, rfl, rfl, rfl, rfl, rfl, rfl, trivial⟩, (hm.pick [0, 1] rfl (by decide)).pickφ [1, 0] rfl⟩ ?_
        clear H ht hm
        intro q10 a w hJ
        obtain ⟨ls1_4, xs1_5, As1_1, cs1_2, ms1_3, H, hqq10, ht, hm⟩ := hJ
        cases q10 with
        | zero => cases H
        | succ q10 =>
        rw [impl_Colouring_hasClique.l1] at H
        refine wp_seq ?_
        refine wpr ?_
        refine wpl rfl rfl ht (ev_cmp ht rfl rfl rfl rfl) ?_
        intro a ht
        refine wpList_nil ?_
        refine then_normal ?_
        refine wp_seq ?_
        by_cases h11 : xs1_5 < (((points.take (points.length : Int).toNat).drop (w64 (xs0_1 + 1)).toNat).length : Int)
        · replace H := ite_yes h11 H
          refine wpc_yes ht rfl (decide_eq_true h11) ?_
          refine wp_skip ?_
          refine then_normal ?_
          refine wp_seq ?_
          refine wp_block ?_
          refine wp_seq ?_
          refine wpr ?_
          obtain ⟨t12, et12, H⟩ := bind_get H
          refine wpl rfl rfl ht (ev_index_ints ht rfl rfl rfl so_25 (hm.fact (φ := IntsAt (sliceA A (w64 (xs0_1 + 1)).toNat c2) (c2 - (w64 (xs0_1 + 1)).toNat) ((points.length : Int).toNat - (w64 (xs0_1 + 1)).toNat) ((points.take (points.length : Int).toNat).drop (w64 (xs0_1 + 1)).toNat)) 1 rfl) et12) ?_
          intro a ht
          refine wpl rfl rfl ht (ev_load ht rfl rfl sc_2 (RowAt.cell (hm.fact (φ := IntsAt (sliceA A (w64 (xs0_1 + 1)).toNat c2) (c2 - (w64 (xs0_1 + 1)).toNat) ((points.length : Int).toNat - (w64 (xs0_1 + 1)).toNat) ((points.take (points.length : Int).toNat).drop (w64 (xs0_1 + 1)).toNat)) 1 rfl) (ints_get et12) rfl)) ?_
          intro a ht
          refine wpl rfl rfl ht (ev_assign ht rfl rfl) ?_
          intro a ht
          refine wpList_nil ?_
          refine then_normal ?_
          refine wp_seq ?_
          refine wpr ?_
          refine wpl rfl rfl ht (ev_move ht rfl rfl) ?_
          intro a ht
          refine wpl rfl rfl ht (ev_move ht rfl rfl) ?_
          intro a ht
          refine wpl rfl rfl ht (ev_move ht rfl rfl) ?_
          intro a ht
          refine wpl rfl rfl ht (ev_move ht rfl rfl) ?_
          intro a ht
          obtain ⟨t13, et13, H⟩ := bind_get H
          have hcall := impl_Colouring_joins.calls _ _ b x t6 t12 c _ ((fun (hq : Ms _ _ _ ([.blk b 28 (Col.cells x)] ++ [.vec As1_1 cs1_2 2 1 ms1_3 (ints ls1_4)]) _ _) => hq.lend (φp := []) (allRO_nil)) (hm.pick (own' := [.blk b 28 (Col.cells x)] ++ [.vec As1_1 cs1_2 2 1 ms1_3 (ints ls1_4)]) [1, 0] rfl (by decide))) et13
          refine wpl_call _ rfl rfl ht rfl rfl rfl rfl can_50 hcall ?_
          clear hcall
          rintro _ w ⟨rfl, hpost⟩ a ht
          replace hm := (hm.pick (own' := [.blk b 28 (Col.cells x)] ++ [.vec As1_1 cs1_2 2 1 ms1_3 (ints ls1_4)]) [1, 0] rfl (by decide)).backL hpost
          clear hpost
          refine wpList_nil ?_
          refine then_normal ?_
          by_cases h14 : t13 = true
          · replace H := ite_yes h14 H
            refine wpc_yes ht rfl h14 ?_
            refine wpr ?_
            refine wpl rfl rfl ht (ev_move ht rfl rfl) ?_
            intro a ht
            refine wpl rfl rfl ht (ev_move ht rfl rfl) ?_
            intro a ht
            refine wpl_build_ints (l := [t12]) rfl rfl ht hm rfl und_25 zo_2 sz1_2 (by decide) rfl rfl rfl ?_
            intro A15 a ht w hm
            obtain ⟨l19, el19, H⟩ := bind_get H
            refine wpl_push (r := l19) 2 0 rfl rfl ht hm rfl ap_25 rfl rfl rfl rfl el19 ?_
            intro A16 c17 m18 a ht w hm
            refine wpl rfl rfl ht (ev_assign ht rfl rfl) ?_
            intro a ht
            refine wpList_nil ?_
            refine blk_normal ?_
            refine then_normal ?_
            refine wpr ?_
            refine wpl rfl rfl ht (ev_arith ht rfl rfl rfl rfl) ?_
            intro a ht
            refine wpl rfl rfl ht (ev_move ht rfl rfl) ?_
            intro a ht
            refine wpList_nil ?_
            exact then_normal ⟨q10, by omega, l19, (w64 (xs1_5 + 1)), A16, c17, m18, H, by omega, ht.sub ⟨rfl, rfl, rfl, rfl, rfl, rfl, rfl, rfl, rfl, rfl, rfl, rfl, rfl, rfl, rfl, rfl, rfl, rfl, rfl, rfl, rfl, trivial⟩, (hm.pick [2, 1] rfl (by decide)).pickφ [0, 1] rfl⟩
          · replace H := ite_no h14 H
            refine wpc_no ht rfl (Bool.eq_false_iff.mpr h14) ?_
            refine wp_skip ?_
            refine blk_normal ?_
            refine then_normal ?_
            refine wpr ?_
            refine wpl rfl rfl ht (ev_arith ht rfl rfl rfl rfl) ?_
            intro a ht
            refine wpl rfl rfl ht (ev_move ht rfl rfl) ?_
            intro a ht
            refine wpList_nil ?_
            exact then_normal ⟨q10, by omega, ls1_4, (w64 (xs1_5 + 1)), As1_1, cs1_2, ms1_3, H, by omega, ht.sub ⟨rfl, rfl, rfl, rfl, rfl, rfl, rfl, rfl, rfl, rfl, rfl, rfl, rfl, rfl, rfl, rfl, rfl, rfl, rfl, rfl, rfl, trivial⟩, (hm.pick [1, 0] rfl (by decide)).pickφ [0, 1] rfl⟩
        · replace H := ite_no h11 H
          refine wpc_no ht rfl (decide_eq_false h11) ?_
          refine wp_exit ?_
          refine then_exit ?_
          refine then_exit ?_
          refine blk_hit ?_
          refine then_normal ?_
          refine wp_seq ?_
          refine wpr ?_
          refine wpl rfl rfl ht (ev_move ht rfl rfl) ?_
          intro a ht
          refine wpl rfl rfl ht (ev_move ht rfl rfl) ?_
          intro a ht
          refine wpl rfl rfl ht (ev_move ht rfl rfl) ?_
          intro a ht
          refine wpl rfl rfl ht (ev_arith ht rfl rfl rfl rfl) ?_
          intro a ht
          refine wpl rfl rfl ht (ev_move ht rfl rfl) ?_
          intro a ht
          obtain ⟨t20, et20, H⟩ := bind_get H
          have hcall := ih q10 (by omega) _ _ b As1_1 cs1_2 ms1_3 x c (w64 (m - 1)) ls1_4 _ ((fun (hq : Ms _ _ _ ([.blk b 28 (Col.cells x)] ++ [.vec As1_1 cs1_2 2 1 ms1_3 (ints ls1_4)]) _ _) => hq.lend (φp := [IntsAt As1_1 cs1_2 ms1_3 ls1_4]) (allRO_cons (hq.lendVec 0 rfl) (allRO_nil))) (hm.pick (own' := [.blk b 28 (Col.cells x)] ++ [.vec As1_1 cs1_2 2 1 ms1_3 (ints ls1_4)]) [1, 0] rfl (by decide))) et20
          refine wpl_call _ rfl rfl ht rfl rfl rfl rfl can_52 hcall ?_
          clear hcall
          rintro _ w ⟨rfl, hpost⟩ a ht
          replace hm := (hm.pick (own' := [.blk b 28 (Col.cells x)] ++ [.vec As1_1 cs1_2 2 1 ms1_3 (ints ls1_4)]) [1, 0] rfl (by decide)).backL hpost
          clear hpost
          refine wpList_nil ?_
          refine then_normal ?_
          by_cases h21 : t20 = true
          · replace H := ite_yes h21 H
            refine wpc_yes ht rfl h21 ?_
            refine wp_seq ?_
            refine wpr ?_
            refine wpl rfl rfl ht (ev_assign ht rfl rfl) ?_
            intro a ht
            refine wpList_nil ?_
            refine then_normal ?_
            refine wp_ret ?_
            refine blk_ret ?_
            refine then_ret ?_
            refine then_ret ?_
            refine blk_ret ?_
            refine then_ret ?_
            have hres := ht.res (P := Try.prog) (w := w) (rs := [.tmp 8]) (vs := [.bool true]) (.tmp rfl .nil)
            obtain rfl := Option.some.inj H
            exact leave ht rfl hres ⟨rfl, ((hm.pick [0] rfl (by decide)).pickφ [] rfl).post fun _ h => h⟩
          · replace H := ite_no h21 H
            refine wpc_no ht rfl (Bool.eq_false_iff.mpr h21) ?_
            refine wp_skip ?_
            refine blk_normal ?_
            refine then_normal ?_
            refine wpr ?_
            refine wpl rfl rfl ht (ev_arith ht rfl rfl rfl rfl) ?_
            intro a ht
            refine wpl rfl rfl ht (ev_move ht rfl rfl) ?_
            intro a ht
            refine wpList_nil ?_
            exact then_normal ⟨q10, by omega, (w64 (xs0_1 + 1)), H, by omega, ht.sub ⟨rfl, rfl, rfl, rfl, rfl, rfl, rfl, rfl, trivial⟩, (hm.pick [0] rfl (by decide)).pickφ [0] rfl⟩
      · replace H := ite_no h5 H
        refine wpc_no ht rfl (decide_eq_false h5) ?_
        refine wp_exit ?_
        refine then_exit ?_
        refine then_exit ?_
        refine blk_hit ?_
        refine then_normal ?_
        refine wp_seq ?_
        refine wpr ?_
        refine wpl rfl rfl ht (ev_assign ht rfl rfl) ?_
        intro a ht
        refine wpList_nil ?_
        refine then_normal ?_
        refine wp_ret ?_
        have hres := ht.res (P := Try.prog) (w := w) (rs := [.tmp 8]) (vs := [.bool false]) (.tmp rfl .nil)
        obtain rfl := Option.some.inj H
        exact leave ht rfl hres ⟨rfl, ((hm.pick [0] rfl (by decide)).pickφ [] rfl).post fun _ h => h⟩

end Go.Proofs.Ytocjhmeekecdiaa.G
