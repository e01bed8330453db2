/- What each Go function computes, as a Lean function, and the proof that it does: written by a program of this session (wip/gen), part 6. -/
import Derived.Test.YtdpamdedomkomaaGFnExactFullCliques5
namespace Go.Proofs.Ytdpamdedomkomaa.G
open Go Go.RowKit Go.Proofs.Ytdpamdedomkomaa.K
set_option linter.unusedVariables false
set_option linter.unusedSimpArgs false

/-! ### impl_Colouring_goesWith_1: function 120 ((*loop.example/g01362/impl.Colouring).goesWith$1) -/
def impl_Colouring_goesWith_1.f (i : Int) (x : Col) (x2 : Int) (x3 : Int) : Option (Bool) := (impl_Colouring_joins.f x i x2 x3).bind fun t1 => some !t1
set_option maxRecDepth 100000 in
set_option maxHeartbeats 1000000 in
theorem impl_Colouring_goesWith_1.calls (X : List Nat) (w0 : World) (b : Nat) (b2 : Nat) (b3 : Nat) (b4 : Nat) (i : Int) (x : Col) (x2 : Int) (x3 : Int) (r : Bool)
    (hp : Pre X w0 [.blk b 87 [.pointer (some ⟨b2, 0, none⟩)], .blk b2 28 (Col.cells x), .blk b3 2 [.int .i64 x2], .blk b4 2 [.int .i64 x3]] []) (H : impl_Colouring_goesWith_1.f i x x2 x3 = some r) :
    Calls Try.prog 120 [.int .i64 i, .pointer (some ⟨b, 0, none⟩), .pointer (some ⟨b3, 0, none⟩), .pointer (some ⟨b4, 0, none⟩)].toArray w0 (Ret fun v w => v = .bool r ∧ Post X (fps [.blk b 87 [.pointer (some ⟨b2, 0, none⟩)], .blk b2 28 (Col.cells x), .blk b3 2 [.int .i64 x2], .blk b4 2 [.int .i64 x3]]) w0 [.blk b 87 [.pointer (some ⟨b2, 0, none⟩)], .blk b2 28 (Col.cells x), .blk b3 2 [.int .i64 x2], .blk b4 2 [.int .i64 x3]] [] w) := by
  unfold impl_Colouring_goesWith_1.f at H
  refine enterM (n := 12) hp Try.func120 rfl rfl (Nat.le_of_ble_eq_true rfl) fun a w ht hm => ?_
  refine wp_seq ?_
  refine wpr ?_
  refine wpl rfl rfl ht (ev_assign ht rfl rfl) ?_
  intro a ht
  refine wpList_nil ?_
  refine then_normal ?_
  refine wp_seq ?_
  refine wpr ?_
  refine wpl rfl rfl ht (ev_load ht rfl rfl sc_87 (hm.blk_cell 0 rfl rfl)) ?_
  intro a ht
  refine wpl rfl rfl ht (ev_move ht rfl rfl) ?_
  intro a ht
  refine wpl rfl rfl ht (ev_load ht rfl rfl sc_2 (hm.blk_cell 2 rfl rfl)) ?_
  intro a ht
  refine wpl rfl rfl ht (ev_load ht rfl rfl sc_2 (hm.blk_cell 3 rfl rfl)) ?_
  intro a ht
  obtain ⟨t1, et1, H⟩ := bind_get H
  have hcall := impl_Colouring_joins.calls _ _ b2 x i x2 x3 _ ((fun (hq : Ms _ _ _ ([.blk b2 28 (Col.cells x)] ++ [.blk b 87 [.pointer (some ⟨b2, 0, none⟩)], .blk b3 2 [.int .i64 x2], .blk b4 2 [.int .i64 x3]]) _ _) => hq.lend (φp := []) (allRO_nil)) (hm.pick (own' := [.blk b2 28 (Col.cells x)] ++ [.blk b 87 [.pointer (some ⟨b2, 0, none⟩)], .blk b3 2 [.int .i64 x2], .blk b4 2 [.int .i64 x3]]) [1, 0, 2, 3] rfl (by decide))) et1
  refine wpl_call _ rfl rfl ht rfl rfl rfl rfl can_121 hcall ?_
  clear hcall
  rintro _ w ⟨rfl, hpost⟩ a ht
  replace hm := (hm.pick (own' := [.blk b2 28 (Col.cells x)] ++ [.blk b 87 [.pointer (some ⟨b2, 0, none⟩)], .blk b3 2 [.int .i64 x2], .blk b4 2 [.int .i64 x3]]) [1, 0, 2, 3] rfl (by decide)).backL hpost
  clear hpost
  refine wpl rfl rfl ht (ev_not ht rfl rfl) ?_
  intro a ht
  refine wpl rfl rfl ht (ev_assign ht rfl rfl) ?_
  intro a ht
  refine wpList_nil ?_
  refine then_normal ?_
  refine wp_ret ?_
  have hres := ht.res (P := Try.prog) (w := w) (rs := [.tmp 5]) (vs := [.bool !t1]) (.tmp rfl .nil)
  obtain rfl := Option.some.inj H
  exact leave ht rfl hres ⟨rfl, ((hm.pick [1, 0, 2, 3] rfl (by decide)).pickφ [] rfl).post fun _ h => h⟩

/-! ### slices_IndexFunc_int64_int64__Colouring_goesWith_1: function 128 (slices.IndexFunc[[]int64,int64]) -/
def slices_IndexFunc_int64_int64__Colouring_goesWith_1.l0 : Nat → List Int → Col → Int → Int → Int → Option (Int)
  | 0, _, _, _, _, _ => none
  | q1 + 1, s, f, f2, f3, xs0_1 => if xs0_1 < (s.length : Int) then ((getI s xs0_1).bind fun t3 => (impl_Colouring_goesWith_1.f t3 f f2 f3).bind fun t4 => if t4 = true then (some xs0_1) else (slices_IndexFunc_int64_int64__Colouring_goesWith_1.l0 q1 s f f2 f3 (w64 (xs0_1 + 1)))) else (some (-1))
def slices_IndexFunc_int64_int64__Colouring_goesWith_1.f (k : Nat) (s : List Int) (f : Col) (f2 : Int) (f3 : Int) : Option (Int) := slices_IndexFunc_int64_int64__Colouring_goesWith_1.l0 k s f f2 f3 0
set_option maxRecDepth 100000 in
set_option maxHeartbeats 1000000 in
theorem slices_IndexFunc_int64_int64__Colouring_goesWith_1.calls (k : Nat) (X : List Nat) (w0 : World) (A : Option Addr) (c : Nat) (m : Nat) (b : Nat) (b2 : Nat) (b3 : Nat) (b4 : Nat) (s : List Int) (f : Col) (f2 : Int) (f3 : Int) (r : Int)
    (hp : Pre X w0 [.blk b 87 [.pointer (some ⟨b2, 0, none⟩)], .blk b2 28 (Col.cells f), .blk b3 2 [.int .i64 f2], .blk b4 2 [.int .i64 f3]] [IntsAt A c m s]) (H : slices_IndexFunc_int64_int64__Colouring_goesWith_1.f k s f f2 f3 = some r) :
    Calls Try.prog 128 [.slice A m c, .func (.func 120) [].toArray [.pointer (some ⟨b, 0, none⟩), .pointer (some ⟨b3, 0, none⟩), .pointer (some ⟨b4, 0, none⟩)].toArray].toArray w0 (Ret fun v w => v = .int .i64 r ∧ Post X (fps [.blk b 87 [.pointer (some ⟨b2, 0, none⟩)], .blk b2 28 (Col.cells f), .blk b3 2 [.int .i64 f2], .blk b4 2 [.int .i64 f3]]) w0 [.blk b 87 [.pointer (some ⟨b2, 0, none⟩)], .blk b2 28 (Col.cells f), .blk b3 2 [.int .i64 f2], .blk b4 2 [.int .i64 f3]] [] w) := by
  unfold slices_IndexFunc_int64_int64__Colouring_goesWith_1.f at H
  refine enterM (n := 19) hp Try.func128 rfl rfl (Nat.le_of_ble_eq_true rfl) fun a w ht hm => ?_
  refine wp_seq ?_
  refine wpr ?_
  refine wpl rfl rfl ht (ev_assign ht rfl rfl) ?_
  intro a ht
  refine wpList_nil ?_
  refine then_normal ?_
  refine wp_seq ?_
  refine wp_seq ?_
  refine wpr ?_
  refine wpl rfl rfl ht (ev_move ht rfl rfl) ?_
  intro a ht
  refine wpl rfl rfl ht (ev_len_of ht rfl rfl und_25 (hm.fact (φ := IntsAt A c m s) 0 rfl)) ?_
  intro a ht
  refine wpl rfl rfl ht (ev_move ht rfl rfl) ?_
  intro a ht
  refine wpList_nil ?_
  refine then_normal ?_
  refine wp_block ?_
  refine wpLoop (fun q a w => ∃ (xs0_1 : Int), slices_IndexFunc_int64_int64__Colouring_goesWith_1.l0 q s f f2 f3 xs0_1 = some r ∧ q ≤ k ∧ Tm 19 [(0, .slice A m c), (1, .func (.func 120) [].toArray [.pointer (some ⟨b, 0, none⟩), .pointer (some ⟨b3, 0, none⟩), .pointer (some ⟨b4, 0, none⟩)].toArray), (4, .int .i64 0), (7, .int .i64 (s.length : Int)), (8, .int .i64 xs0_1)] a ∧ Ms X (fps [.blk b 87 [.pointer (some ⟨b2, 0, none⟩)], .blk b2 28 (Col.cells f), .blk b3 2 [.int .i64 f2], .blk b4 2 [.int .i64 f3]]) w0 [.blk b 87 [.pointer (some ⟨b2, 0, none⟩)], .blk b2 28 (Col.cells f), .blk b3 2 [.int .i64 f2], .blk b4 2 [.int .i64 f3]] [IntsAt A c m s] w) (k0 := k) ⟨0, H, Nat.le_refl _, ht.sub ⟨rfl, rfl, rfl, rfl, rfl, trivial⟩, (hm.pick [0, 1, 2, 3] rfl (by decide)).pickφ [0] rfl⟩ ?_
  clear H ht hm
  intro q1 a w hJ
  obtain ⟨xs0_1, H, hqq1, ht, hm⟩ := hJ
  cases q1 with
  | zero => cases H
  | succ q1 =>
  rw [slices_IndexFunc_int64_int64__Colouring_goesWith_1.l0] at H
  refine wp_seq ?_
  refine wpr ?_
  refine wpl rfl rfl ht (ev_cmp ht rfl rfl rfl rfl) ?_
  intro a ht
  refine wpList_nil ?_
  refine then_normal ?_
  refine wp_seq ?_
  by_cases h2 : xs0_1 < (s.length : Int)
  · replace H := ite_yes h2 H
    refine wpc_yes ht rfl (decide_eq_true h2) ?_
    refine wp_skip ?_
    refine then_normal ?_
    refine wp_seq ?_
    refine wp_block ?_
    refine wp_seq ?_
    refine wpr ?_
    refine wpl rfl rfl ht (ev_move ht rfl rfl) ?_
    intro a ht
    refine wpl rfl rfl ht (ev_assign ht rfl rfl) ?_
    intro a ht
    refine wpList_nil ?_
    refine then_normal ?_
    refine wp_seq ?_
    refine wpr ?_
    refine wpl rfl rfl ht (ev_move ht rfl rfl) ?_
    intro a ht
    refine wpl rfl rfl ht (ev_move ht rfl rfl) ?_
    intro a ht
    refine wpl rfl rfl ht (ev_move ht rfl rfl) ?_
    intro a ht
    obtain ⟨t3, et3, H⟩ := bind_get H
    refine wpl rfl rfl ht (ev_index_ints ht rfl rfl rfl so_25 (hm.fact (φ := IntsAt A c m s) 0 rfl) et3) ?_
    intro a ht
    refine wpl rfl rfl ht (ev_load ht rfl rfl sc_2 (RowAt.cell (hm.fact (φ := IntsAt A c m s) 0 rfl) (ints_get et3) rfl)) ?_
    intro a ht
    obtain ⟨t4, et4, H⟩ := bind_get H
    have hcall := impl_Colouring_goesWith_1.calls _ _ b b2 b3 b4 t3 f f2 f3 _ ((fun (hq : Ms _ _ _ ([.blk b 87 [.pointer (some ⟨b2, 0, none⟩)], .blk b2 28 (Col.cells f), .blk b3 2 [.int .i64 f2], .blk b4 2 [.int .i64 f3]] ++ []) _ _) => hq.lend (φp := []) (allRO_nil)) (hm.pick (own' := [.blk b 87 [.pointer (some ⟨b2, 0, none⟩)], .blk b2 28 (Col.cells f), .blk b3 2 [.int .i64 f2], .blk b4 2 [.int .i64 f3]] ++ []) [0, 1, 2, 3] rfl (by decide))) et4
    refine wpl_call _ rfl rfl ht rfl rfl rfl rfl can_120 hcall ?_
    clear hcall
    rintro _ w ⟨rfl, hpost⟩ a ht
    replace hm := (hm.pick (own' := [.blk b 87 [.pointer (some ⟨b2, 0, none⟩)], .blk b2 28 (Col.cells f), .blk b3 2 [.int .i64 f2], .blk b4 2 [.int .i64 f3]] ++ []) [0, 1, 2, 3] rfl (by decide)).backL hpost
    clear hpost
    refine wpList_nil ?_
    refine then_normal ?_
    by_cases h5 : t4 = true
    · replace H := ite_yes h5 H
      refine wpc_yes ht rfl h5 ?_
      refine wp_seq ?_
      refine wpr ?_
      refine wpl rfl rfl ht (ev_move ht rfl rfl) ?_
      intro a ht
      refine wpl rfl rfl ht (ev_assign ht rfl rfl) ?_
      intro a ht
      refine wpList_nil ?_
      refine then_normal ?_
      refine wp_ret ?_
      refine blk_ret ?_
      refine then_ret ?_
      refine then_ret ?_
      refine blk_ret ?_
      refine then_ret ?_
      have hres := ht.res (P := Try.prog) (w := w) (rs := [.tmp 4]) (vs := [.int .i64 xs0_1]) (.tmp rfl .nil)
      obtain rfl := Option.some.inj H
      exact leave ht rfl hres ⟨rfl, ((hm.pick [0, 1, 2, 3] rfl (by decide)).pickφ [] rfl).post fun _ h => h⟩
    · replace H := ite_no h5 H
      refine wpc_no ht rfl (Bool.eq_false_iff.mpr h5) ?_
      refine wp_skip ?_
      refine blk_normal ?_
      refine then_normal ?_
      refine wpr ?_
      refine wpl rfl rfl ht (ev_arith ht rfl rfl rfl rfl) ?_
      intro a ht
      refine wpl rfl rfl ht (ev_move ht rfl rfl) ?_
      intro a ht
      refine wpList_nil ?_
      exact then_normal ⟨q1, by omega, (w64 (xs0_1 + 1)), H, by omega, ht.sub ⟨rfl, rfl, rfl, rfl, rfl, trivial⟩, (hm.pick [0, 1, 2, 3] rfl (by decide)).pickφ [0] rfl⟩
  · replace H := ite_no h2 H
    refine wpc_no ht rfl (decide_eq_false h2) ?_
    refine wp_exit ?_
    refine then_exit ?_
    refine then_exit ?_
    refine blk_hit ?_
    refine then_normal ?_
    refine wp_seq ?_
    refine wpr ?_
    refine wpl rfl rfl ht (ev_assign ht rfl rfl) ?_
    intro a ht
    refine wpList_nil ?_
    refine then_normal ?_
    refine wp_ret ?_
    have hres := ht.res (P := Try.prog) (w := w) (rs := [.tmp 4]) (vs := [.int .i64 (-1)]) (.tmp rfl .nil)
    obtain rfl := Option.some.inj H
    exact leave ht rfl hres ⟨rfl, ((hm.pick [0, 1, 2, 3] rfl (by decide)).pickφ [] rfl).post fun _ h => h⟩

/-! ### slices_ContainsFunc_int64_int64__Colouring_goesWith_1: function 119 (slices.ContainsFunc[[]int64,int64]) -/
def slices_ContainsFunc_int64_int64__Colouring_goesWith_1.f (k : Nat) (s : List Int) (f : Col) (f2 : Int) (f3 : Int) : Option (Bool) := (slices_IndexFunc_int64_int64__Colouring_goesWith_1.f k s f f2 f3).bind fun t1 => some (decide (t1 ≥ 0))
set_option maxRecDepth 100000 in
set_option maxHeartbeats 1000000 in
theorem slices_ContainsFunc_int64_int64__Colouring_goesWith_1.calls (k : Nat) (X : List Nat) (w0 : World) (A : Option Addr) (c : Nat) (m : Nat) (b : Nat) (b2 : Nat) (b3 : Nat) (b4 : Nat) (s : List Int) (f : Col) (f2 : Int) (f3 : Int) (r : Bool)
    (hp : Pre X w0 [.blk b 87 [.pointer (some ⟨b2, 0, none⟩)], .blk b2 28 (Col.cells f), .blk b3 2 [.int .i64 f2], .blk b4 2 [.int .i64 f3]] [IntsAt A c m s]) (H : slices_ContainsFunc_int64_int64__Colouring_goesWith_1.f k s f f2 f3 = some r) :
    Calls Try.prog 119 [.slice A m c, .func (.func 120) [].toArray [.pointer (some ⟨b, 0, none⟩), .pointer (some ⟨b3, 0, none⟩), .pointer (some ⟨b4, 0, none⟩)].toArray].toArray w0 (Ret fun v w => v = .bool r ∧ Post X (fps [.blk b 87 [.pointer (some ⟨b2, 0, none⟩)], .blk b2 28 (Col.cells f), .blk b3 2 [.int .i64 f2], .blk b4 2 [.int .i64 f3]]) w0 [.blk b 87 [.pointer (some ⟨b2, 0, none⟩)], .blk b2 28 (Col.cells f), .blk b3 2 [.int .i64 f2], .blk b4 2 [.int .i64 f3]] [] w) := by
  unfold slices_ContainsFunc_int64_int64__Colouring_goesWith_1.f at H
  refine enterM (n := 9) hp Try.func119 rfl rfl (Nat.le_of_ble_eq_true rfl) fun a w ht hm => ?_
  refine wp_seq ?_
  refine wpr ?_
  refine wpl rfl rfl ht (ev_assign ht rfl rfl) ?_
  intro a ht
  refine wpList_nil ?_
  refine then_normal ?_
  refine wp_seq ?_
  refine wpr ?_
  refine wpl rfl rfl ht (ev_move ht rfl rfl) ?_
  intro a ht
  refine wpl rfl rfl ht (ev_move ht rfl rfl) ?_
  intro a ht
  obtain ⟨t1, et1, H⟩ := bind_get H
  have hcall := slices_IndexFunc_int64_int64__Colouring_goesWith_1.calls k _ _ A c m b b2 b3 b4 s f f2 f3 _ ((fun (hq : Ms _ _ _ ([.blk b 87 [.pointer (some ⟨b2, 0, none⟩)], .blk b2 28 (Col.cells f), .blk b3 2 [.int .i64 f2], .blk b4 2 [.int .i64 f3]] ++ []) _ _) => hq.lend (φp := [IntsAt A c m s]) (allRO_cons (hq.lendFact 0 rfl) (allRO_nil))) (hm.pick (own' := [.blk b 87 [.pointer (some ⟨b2, 0, none⟩)], .blk b2 28 (Col.cells f), .blk b3 2 [.int .i64 f2], .blk b4 2 [.int .i64 f3]] ++ []) [0, 1, 2, 3] rfl (by decide))) et1
  refine wpl_call _ rfl rfl ht rfl rfl rfl rfl can_128 hcall ?_
  clear hcall
  rintro _ w ⟨rfl, hpost⟩ a ht
  replace hm := (hm.pick (own' := [.blk b 87 [.pointer (some ⟨b2, 0, none⟩)], .blk b2 28 (Col.cells f), .blk b3 2 [.int .i64 f2], .blk b4 2 [.int .i64 f3]] ++ []) [0, 1, 2, 3] rfl (by decide)).backL hpost
  clear hpost
  refine wpl rfl rfl ht (ev_cmp ht rfl rfl rfl rfl) ?_
  intro a ht
  refine wpl rfl rfl ht (ev_assign ht rfl rfl) ?_
  intro a ht
  refine wpList_nil ?_
  refine then_normal ?_
  refine wp_ret ?_
  have hres := ht.res (P := Try.prog) (w := w) (rs := [.tmp 4]) (vs := [.bool (decide (t1 ≥ 0))]) (.tmp rfl .nil)
  obtain rfl := Option.some.inj H
  exact leave ht rfl hres ⟨rfl, ((hm.pick [0, 1, 2, 3] rfl (by decide)).pickφ [] rfl).post fun _ h => h⟩

/-! ### impl_Colouring_goesWith: function 98 ((*loop.example/g01362/impl.Colouring).goesWith) -/
def impl_Colouring_goesWith.f (k : Nat) (x : Col) (c : Int) (list : List Int) (p : Int) : Option (Bool) := (slices_ContainsFunc_int64_int64__Colouring_goesWith_1.f k list x p c).bind fun t4 => some !t4
set_option maxRecDepth 100000 in
set_option maxHeartbeats 1000000 in
theorem impl_Colouring_goesWith.calls (k : Nat) (X : List Nat) (w0 : World) (b : Nat) (A : Option Addr) (c2 : Nat) (m : Nat) (x : Col) (c : Int) (list : List Int) (p : Int) (r : Bool)
    (hp : Pre X w0 [.blk b 28 (Col.cells x)] [IntsAt A c2 m list]) (H : impl_Colouring_goesWith.f k x c list p = some r) :
    Calls Try.prog 98 [.pointer (some ⟨b, 0, none⟩), .int .i64 c, .slice A m c2, .int .i64 p].toArray w0 (Ret fun v w => v = .bool r ∧ Post X (fps [.blk b 28 (Col.cells x)]) w0 [.blk b 28 (Col.cells x)] [] w) := by
  unfold impl_Colouring_goesWith.f at H
  refine enterM (n := 13) hp Try.func98 rfl rfl (Nat.le_of_ble_eq_true rfl) fun a w ht hm => ?_
  refine wp_seq ?_
  refine wpr ?_
  refine wpl_box rfl rfl ht hm rfl rfl rfl ?_
  intro b1 a ht w hm
  refine wpl_box rfl rfl ht hm rfl rfl rfl ?_
  intro b2 a ht w hm
  refine wpl_box rfl rfl ht hm rfl rfl rfl ?_
  intro b3 a ht w hm
  refine wpl rfl rfl ht (ev_assign ht rfl rfl) ?_
  intro a ht
  refine wpList_nil ?_
  refine then_normal ?_
  refine wp_seq ?_
  refine wpr ?_
  refine wpl rfl rfl ht (ev_move ht rfl rfl) ?_
  intro a ht
  refine wpl rfl rfl ht (ev_makeFunc ht rfl rfl rfl) ?_
  intro a ht
  obtain ⟨t4, et4, H⟩ := bind_get H
  have hcall := slices_ContainsFunc_int64_int64__Colouring_goesWith_1.calls k _ _ A c2 m b1 b b3 b2 list x p c _ ((fun (hq : Ms _ _ _ ([.blk b1 87 [.pointer (some ⟨b, 0, none⟩)], .blk b 28 (Col.cells x), .blk b3 2 [.int .i64 p], .blk b2 2 [.int .i64 c]] ++ []) _ _) => hq.lend (φp := [IntsAt A c2 m list]) (allRO_cons (hq.lendFact 0 rfl) (allRO_nil))) (hm.pick (own' := [.blk b1 87 [.pointer (some ⟨b, 0, none⟩)], .blk b 28 (Col.cells x), .blk b3 2 [.int .i64 p], .blk b2 2 [.int .i64 c]] ++ []) [2, 3, 0, 1] rfl (by decide))) et4
  refine wpl_call _ rfl rfl ht rfl rfl rfl rfl can_119 hcall ?_
  clear hcall
  rintro _ w ⟨rfl, hpost⟩ a ht
  replace hm := (hm.pick (own' := [.blk b1 87 [.pointer (some ⟨b, 0, none⟩)], .blk b 28 (Col.cells x), .blk b3 2 [.int .i64 p], .blk b2 2 [.int .i64 c]] ++ []) [2, 3, 0, 1] rfl (by decide)).backL hpost
  clear hpost
  refine wpl rfl rfl ht (ev_not ht rfl rfl) ?_
  intro a ht
  refine wpl rfl rfl ht (ev_assign ht rfl rfl) ?_
  intro a ht
  refine wpList_nil ?_
  refine then_normal ?_
  refine wp_ret ?_
  have hres := ht.res (P := Try.prog) (w := w) (rs := [.tmp 8]) (vs := [.bool !t4]) (.tmp rfl .nil)
  obtain rfl := Option.some.inj H
  exact leave ht rfl hres ⟨rfl, ((hm.pick [1] rfl (by decide)).pickφ [] rfl).post fun _ h => h⟩

/-! ### impl_FullCliques_2_1: function 97 (loop.example/g01362/impl.FullCliques$2$1) -/
def impl_FullCliques_2_1.f (k : Nat) (p : Int) (x : List Int) (x2 : Col) (x3 : Int) : Option (Bool) := (slices_Contains_int64_int64.f k x p).bind fun t1 => if t1 = true then (some false) else ((impl_Colouring_goesWith.f k x2 x3 x p).bind fun t3 => some t3)
set_option maxRecDepth 100000 in
set_option maxHeartbeats 1000000 in
theorem impl_FullCliques_2_1.calls (k : Nat) (X : List Nat) (w0 : World) (b : Nat) (A : Option Addr) (c : Nat) (m : Nat) (b2 : Nat) (b3 : Nat) (p : Int) (x : List Int) (x2 : Col) (x3 : Int) (r : Bool)
    (hp : Pre X w0 [.blk b 25 [.slice A m c], .blk b2 28 (Col.cells x2), .blk b3 2 [.int .i64 x3]] [IntsAt A c m x]) (H : impl_FullCliques_2_1.f k p x x2 x3 = some r) :
    Calls Try.prog 97 [.int .i64 p, .pointer (some ⟨b, 0, none⟩), .pointer (some ⟨b2, 0, none⟩), .pointer (some ⟨b3, 0, none⟩)].toArray w0 (Ret fun v w => v = .bool r ∧ Post X (fps [.blk b 25 [.slice A m c], .blk b2 28 (Col.cells x2), .blk b3 2 [.int .i64 x3]]) w0 [.blk b 25 [.slice A m c], .blk b2 28 (Col.cells x2), .blk b3 2 [.int .i64 x3]] [] w) := by
  unfold impl_FullCliques_2_1.f at H
  refine enterM (n := 16) hp Try.func97 rfl rfl (Nat.le_of_ble_eq_true rfl) fun a w ht hm => ?_
  refine wp_seq ?_
  refine wpr ?_
  refine wpl rfl rfl ht (ev_assign ht rfl rfl) ?_
  intro a ht
  refine wpList_nil ?_
  refine then_normal ?_
  refine wp_seq ?_
  refine wpr ?_
  refine wpl rfl rfl ht (ev_load ht rfl rfl sc_25 (hm.blk_cell 0 rfl rfl)) ?_
  intro a ht
  refine wpl rfl rfl ht (ev_move ht rfl rfl) ?_
  intro a ht
  obtain ⟨t1, et1, H⟩ := bind_get H
  have hcall := slices_Contains_int64_int64.calls k _ _ A c m x p _ ((fun (hq : Ms _ _ _ ([] ++ [.blk b 25 [.slice A m c], .blk b2 28 (Col.cells x2), .blk b3 2 [.int .i64 x3]]) _ _) => hq.lend (φp := [IntsAt A c m x]) (allRO_cons (hq.lendFact 0 rfl) (allRO_nil))) (hm.pick (own' := [] ++ [.blk b 25 [.slice A m c], .blk b2 28 (Col.cells x2), .blk b3 2 [.int .i64 x3]]) [0, 1, 2] rfl (by decide))) et1
  refine wpl_call _ rfl rfl ht rfl rfl rfl rfl can_67 hcall ?_
  clear hcall
  rintro _ w ⟨rfl, hpost⟩ a ht
  replace hm := (hm.pick (own' := [] ++ [.blk b 25 [.slice A m c], .blk b2 28 (Col.cells x2), .blk b3 2 [.int .i64 x3]]) [0, 1, 2] rfl (by decide)).backL hpost
  clear hpost
  refine wpl rfl rfl ht (ev_not ht rfl rfl) ?_
  intro a ht
  refine wpl rfl rfl ht (ev_move ht rfl rfl) ?_
  intro a ht
  by_cases h2 : t1 = true
  · replace H := ite_yes h2 H
    refine wpl_no rfl rfl ht rfl (by rw [(not_t h2)]; decide) ?_
    intro a ht
    refine wpl_no rfl rfl ht rfl (by rw [(not_t h2)]; decide) ?_
    intro a ht
    refine wpl_no rfl rfl ht rfl (by rw [(not_t h2)]; decide) ?_
    intro a ht
    refine wpl_no rfl rfl ht rfl (by rw [(not_t h2)]; decide) ?_
    intro a ht
    refine wpl rfl rfl ht (ev_pick_no ht rfl rfl (not_t h2) rfl) ?_
    intro a ht
    refine wpl rfl rfl ht (ev_assign ht rfl rfl) ?_
    intro a ht
    refine wpList_nil ?_
    refine then_normal ?_
    refine wp_ret ?_
    have hres := ht.res (P := Try.prog) (w := w) (rs := [.tmp 5]) (vs := [.bool false]) (.tmp rfl .nil)
    obtain rfl := Option.some.inj H
    exact leave ht rfl hres ⟨rfl, ((hm.pick [0, 1, 2] rfl (by decide)).pickφ [] rfl).post fun _ h => h⟩
  · replace H := ite_no h2 H
    refine wpl_yes rfl ht rfl ((not_f (Bool.eq_false_iff.mpr h2))) ?_
    refine wpl rfl rfl ht (ev_load ht rfl rfl sc_2 (hm.blk_cell 2 rfl rfl)) ?_
    intro a ht
    refine wpl_yes rfl ht rfl ((not_f (Bool.eq_false_iff.mpr h2))) ?_
    refine wpl rfl rfl ht (ev_load ht rfl rfl sc_25 (hm.blk_cell 0 rfl rfl)) ?_
    intro a ht
    refine wpl_yes rfl ht rfl ((not_f (Bool.eq_false_iff.mpr h2))) ?_
    refine wpl rfl rfl ht (ev_move ht rfl rfl) ?_
    intro a ht
    refine wpl_yes rfl ht rfl ((not_f (Bool.eq_false_iff.mpr h2))) ?_
    obtain ⟨t3, et3, H⟩ := bind_get H
    have hcall := impl_Colouring_goesWith.calls k _ _ b2 A c m x2 x3 x p _ ((fun (hq : Ms _ _ _ ([.blk b2 28 (Col.cells x2)] ++ [.blk b 25 [.slice A m c], .blk b3 2 [.int .i64 x3]]) _ _) => hq.lend (φp := [IntsAt A c m x]) (allRO_cons (hq.lendFact 0 rfl) (allRO_nil))) (hm.pick (own' := [.blk b2 28 (Col.cells x2)] ++ [.blk b 25 [.slice A m c], .blk b3 2 [.int .i64 x3]]) [1, 0, 2] rfl (by decide))) et3
    refine wpl_call _ rfl rfl ht rfl rfl rfl rfl can_98 hcall ?_
    clear hcall
    rintro _ w ⟨rfl, hpost⟩ a ht
    replace hm := (hm.pick (own' := [.blk b2 28 (Col.cells x2)] ++ [.blk b 25 [.slice A m c], .blk b3 2 [.int .i64 x3]]) [1, 0, 2] rfl (by decide)).backL hpost
    clear hpost
    refine wpl rfl rfl ht (ev_pick_yes ht rfl rfl (not_f (Bool.eq_false_iff.mpr h2)) rfl) ?_
    intro a ht
    refine wpl rfl rfl ht (ev_assign ht rfl rfl) ?_
    intro a ht
    refine wpList_nil ?_
    refine then_normal ?_
    refine wp_ret ?_
    have hres := ht.res (P := Try.prog) (w := w) (rs := [.tmp 5]) (vs := [.bool t3]) (.tmp rfl .nil)
    obtain rfl := Option.some.inj H
    exact leave ht rfl hres ⟨rfl, ((hm.pick [1, 0, 2] rfl (by decide)).pickφ [] rfl).post fun _ h => h⟩

/-! ### impl_Colouring_that__FullCliques_2_1: function 90 ((*loop.example/g01362/impl.Colouring).that) -/
def impl_Colouring_that__FullCliques_2_1.l0 : Nat → Col → List Int → Int → List Int → Int → Option (List Int)
  | 0, _, _, _, _, _ => none
  | q2 + 1, x, so, so2, ls0_4, xs0_5 => if xs0_5 < x.p then ((impl_FullCliques_2_1.f q2 xs0_5 so x so2).bind fun t4 => if t4 = true then ((push ls0_4 xs0_5).bind fun l10 => impl_Colouring_that__FullCliques_2_1.l0 q2 x so so2 l10 (w64 (xs0_5 + 1))) else (impl_Colouring_that__FullCliques_2_1.l0 q2 x so so2 ls0_4 (w64 (xs0_5 + 1)))) else (some ls0_4)
def impl_Colouring_that__FullCliques_2_1.f (k : Nat) (x : Col) (so : List Int) (so2 : Int) : Option (List Int) := impl_Colouring_that__FullCliques_2_1.l0 k x so so2 ([] : List Int) 0
set_option maxRecDepth 100000 in
set_option maxHeartbeats 1000000 in
theorem impl_Colouring_that__FullCliques_2_1.calls (k : Nat) (X : List Nat) (w0 : World) (b : Nat) (b2 : Nat) (A : Option Addr) (c : Nat) (m : Nat) (b3 : Nat) (x : Col) (so : List Int) (so2 : Int) (r : List Int)
    (hp : Pre X w0 [.blk b 28 (Col.cells x), .blk b2 25 [.slice A m c], .blk b3 2 [.int .i64 so2]] [IntsAt A c m so]) (H : impl_Colouring_that__FullCliques_2_1.f k x so so2 = some r) :
    Calls Try.prog 90 [.pointer (some ⟨b, 0, none⟩), .func (.func 97) [].toArray [.pointer (some ⟨b2, 0, none⟩), .pointer (some ⟨b, 0, none⟩), .pointer (some ⟨b3, 0, none⟩)].toArray].toArray w0 (Ret fun v w => ∃ (A_0 : Option Addr) (c_0 : Nat) (n_0 : Nat), v = .slice A_0 n_0 c_0 ∧ Post X (fps [.blk b 28 (Col.cells x), .blk b2 25 [.slice A m c], .blk b3 2 [.int .i64 so2]]) w0 [.vec A_0 c_0 2 1 n_0 (ints r), .blk b 28 (Col.cells x), .blk b2 25 [.slice A m c], .blk b3 2 [.int .i64 so2]] [] w) := by
  unfold impl_Colouring_that__FullCliques_2_1.f at H
  refine enterM (n := 24) hp Try.func90 rfl rfl (Nat.le_of_ble_eq_true rfl) fun a w ht hm => ?_
  refine wp_seq ?_
  refine wpr ?_
  refine wpl rfl rfl ht (ev_assign ht rfl rfl) ?_
  intro a ht
  refine wpList_nil ?_
  refine then_normal ?_
  refine wp_seq ?_
  refine wpr ?_
  refine wpl_build_ints (l := ([] : List Int)) rfl rfl ht hm rfl und_25 zo_2 sz1_2 (by decide) rfl rfl rfl ?_
  intro A1 a ht w hm
  refine wpl rfl rfl ht (ev_assign ht rfl rfl) ?_
  intro a ht
  refine wpList_nil ?_
  refine then_normal ?_
  refine wp_seq ?_
  refine wp_seq ?_
  refine wpr ?_
  refine wpl rfl rfl ht (ev_move ht rfl rfl) ?_
  intro a ht
  refine wpl rfl rfl ht (ev_nilCheck ht rfl rfl) ?_
  intro a ht
  refine wpl rfl rfl ht (ev_fieldAddr ht rfl rfl fo_28_0) ?_
  intro a ht
  refine wpl rfl rfl ht (ev_load ht rfl rfl sc_2 (hm.blk_cell 1 rfl rfl)) ?_
  intro a ht
  refine wpl rfl rfl ht (ev_move ht rfl rfl) ?_
  intro a ht
  refine wpList_nil ?_
  refine then_normal ?_
  refine wp_block ?_
  refine wpLoop (fun q a w => ∃ (ls0_4 : List Int) (xs0_5 : Int) (As0_1 : Option Addr) (cs0_2 : Nat) (ms0_3 : Nat), impl_Colouring_that__FullCliques_2_1.l0 q x so so2 ls0_4 xs0_5 = some r ∧ q ≤ k ∧ Tm 24 [(1, .func (.func 97) [].toArray [.pointer (some ⟨b2, 0, none⟩), .pointer (some ⟨b, 0, none⟩), .pointer (some ⟨b3, 0, none⟩)].toArray), (4, .slice none 0 0), (5, .slice As0_1 ms0_3 cs0_2), (11, .int .i64 x.p), (12, .int .i64 xs0_5)] a ∧ Ms X (fps [.blk b 28 (Col.cells x), .blk b2 25 [.slice A m c], .blk b3 2 [.int .i64 so2]]) w0 [.vec As0_1 cs0_2 2 1 ms0_3 (ints ls0_4), .blk b 28 (Col.cells x), .blk b2 25 [.slice A m c], .blk b3 2 [.int .i64 so2]] [IntsAt A c m so] w) (k0 := k) ⟨([] : List Int), 0, A1, 0, 0, H, Nat.le_refl _, ht.sub ⟨rfl, rfl, rfl, rfl, rfl, trivial⟩, (hm.pick [0, 1, 2, 3] rfl (by decide)).pickφ [0] rfl⟩ ?_
  clear H ht hm
  intro q2 a w hJ
  obtain ⟨ls0_4, xs0_5, As0_1, cs0_2, ms0_3, H, hqq2, ht, hm⟩ := hJ
  cases q2 with
  | zero => cases H
  | succ q2 =>
  rw [impl_Colouring_that__FullCliques_2_1.l0] at H
  refine wp_seq ?_
  refine wpr ?_
  refine wpl rfl rfl ht (ev_cmp ht rfl rfl rfl rfl) ?_
  intro a ht
  refine wpList_nil ?_
  refine then_normal ?_
  refine wp_seq ?_
  by_cases h3 : xs0_5 < x.p
  · replace H := ite_yes h3 H
    refine wpc_yes ht rfl (decide_eq_true h3) ?_
    refine wp_skip ?_
    refine then_normal ?_
    refine wp_seq ?_
    refine wp_block ?_
    refine wp_seq ?_
    refine wpr ?_
    refine wpl rfl rfl ht (ev_move ht rfl rfl) ?_
    intro a ht
    refine wpl rfl rfl ht (ev_assign ht rfl rfl) ?_
    intro a ht
    refine wpList_nil ?_
    refine then_normal ?_
    refine wp_seq ?_
    refine wpr ?_
    refine wpl rfl rfl ht (ev_move ht rfl rfl) ?_
    intro a ht
    refine wpl rfl rfl ht (ev_move ht rfl rfl) ?_
    intro a ht
    obtain ⟨t4, et4, H⟩ := bind_get H
    have hcall := impl_FullCliques_2_1.calls q2 _ _ b2 A c m b b3 xs0_5 so x so2 _ ((fun (hq : Ms _ _ _ ([.blk b2 25 [.slice A m c], .blk b 28 (Col.cells x), .blk b3 2 [.int .i64 so2]] ++ [.vec As0_1 cs0_2 2 1 ms0_3 (ints ls0_4)]) _ _) => hq.lend (φp := [IntsAt A c m so]) (allRO_cons (hq.lendFact 0 rfl) (allRO_nil))) (hm.pick (own' := [.blk b2 25 [.slice A m c], .blk b 28 (Col.cells x), .blk b3 2 [.int .i64 so2]] ++ [.vec As0_1 cs0_2 2 1 ms0_3 (ints ls0_4)]) [2, 1, 3, 0] rfl (by decide))) et4
    refine wpl_call _ rfl rfl ht rfl rfl rfl rfl can_97 hcall ?_
    clear hcall
    rintro _ w ⟨rfl, hpost⟩ a ht
    replace hm := (hm.pick (own' := [.blk b2 25 [.slice A m c], .blk b 28 (Col.cells x), .blk b3 2 [.int .i64 so2]] ++ [.vec As0_1 cs0_2 2 1 ms0_3 (ints ls0_4)]) [2, 1, 3, 0] rfl (by decide)).backL hpost
    clear hpost
    refine wpList_nil ?_
    refine then_normal ?_
    by_cases h5 : t4 = true
    · replace H := ite_yes h5 H
      refine wpc_yes ht rfl h5 ?_
      refine wpr ?_
      refine wpl rfl rfl ht (ev_move ht rfl rfl) ?_
      intro a ht
      refine wpl rfl rfl ht (ev_move ht rfl rfl) ?_
      intro a ht
      refine wpl_build_ints (l := [xs0_5]) rfl rfl ht hm rfl und_25 zo_2 sz1_2 (by decide) rfl rfl rfl ?_
      intro A6 a ht w hm
      obtain ⟨l10, el10, H⟩ := bind_get H
      refine wpl_push (r := l10) 4 0 rfl rfl ht hm rfl ap_25 rfl rfl rfl rfl el10 ?_
      intro A7 c8 m9 a ht w hm
      refine wpl rfl rfl ht (ev_assign ht rfl rfl) ?_
      intro a ht
      refine wpList_nil ?_
      refine blk_normal ?_
      refine then_normal ?_
      refine wpr ?_
      refine wpl rfl rfl ht (ev_arith ht rfl rfl rfl rfl) ?_
      intro a ht
      refine wpl rfl rfl ht (ev_move ht rfl rfl) ?_
      intro a ht
      refine wpList_nil ?_
      exact then_normal ⟨q2, by omega, l10, (w64 (xs0_5 + 1)), A7, c8, m9, H, by omega, ht.sub ⟨rfl, rfl, rfl, rfl, rfl, trivial⟩, (hm.pick [4, 2, 1, 3] rfl (by decide)).pickφ [0] rfl⟩
    · replace H := ite_no h5 H
      refine wpc_no ht rfl (Bool.eq_false_iff.mpr h5) ?_
      refine wp_skip ?_
      refine blk_normal ?_
      refine then_normal ?_
      refine wpr ?_
      refine wpl rfl rfl ht (ev_arith ht rfl rfl rfl rfl) ?_
      intro a ht
      refine wpl rfl rfl ht (ev_move ht rfl rfl) ?_
      intro a ht
      refine wpList_nil ?_
      exact then_normal ⟨q2, by omega, ls0_4, (w64 (xs0_5 + 1)), As0_1, cs0_2, ms0_3, H, by omega, ht.sub ⟨rfl, rfl, rfl, rfl, rfl, trivial⟩, (hm.pick [3, 1, 0, 2] rfl (by decide)).pickφ [0] rfl⟩
  · replace H := ite_no h3 H
    refine wpc_no ht rfl (decide_eq_false h3) ?_
    refine wp_exit ?_
    refine then_exit ?_
    refine then_exit ?_
    refine blk_hit ?_
    refine then_normal ?_
    refine wp_seq ?_
    refine wpr ?_
    refine wpl rfl rfl ht (ev_move ht rfl rfl) ?_
    intro a ht
    refine wpl rfl rfl ht (ev_assign ht rfl rfl) ?_
    intro a ht
    refine wpList_nil ?_
    refine then_normal ?_
    refine wp_ret ?_
    have hres := ht.res (P := Try.prog) (w := w) (rs := [.tmp 4]) (vs := [.slice As0_1 ms0_3 cs0_2]) (.tmp rfl .nil)
    obtain rfl := Option.some.inj H
    exact leave ht rfl hres ⟨As0_1, cs0_2, ms0_3, rfl, ((hm.pick [0, 1, 2, 3] rfl (by decide)).pickφ [] rfl).post fun _ h => h⟩

/-! ### impl_FullCliques_2: function 96 (loop.example/g01362/impl.FullCliques$2) -/
def impl_FullCliques_2.f (k : Nat) (list : List Int) (x : Col) (x2 : Int) : Option (Bool) := (impl_Colouring_that__FullCliques_2_1.f k x list x2).bind fun t2 => some (decide ((t2.length : Int) = 0))
set_option maxRecDepth 100000 in
set_option maxHeartbeats 1000000 in
theorem impl_FullCliques_2.calls (k : Nat) (X : List Nat) (w0 : World) (A : Option Addr) (c : Nat) (m : Nat) (b : Nat) (b2 : Nat) (list : List Int) (x : Col) (x2 : Int) (r : Bool)
    (hp : Pre X w0 [.blk b 28 (Col.cells x), .blk b2 2 [.int .i64 x2]] [IntsAt A c m list]) (H : impl_FullCliques_2.f k list x x2 = some r) :
    Calls Try.prog 96 [.slice A m c, .pointer (some ⟨b, 0, none⟩), .pointer (some ⟨b2, 0, none⟩)].toArray w0 (Ret fun v w => v = .bool r ∧ Post X (fps [.blk b 28 (Col.cells x), .blk b2 2 [.int .i64 x2]]) w0 [.blk b 28 (Col.cells x), .blk b2 2 [.int .i64 x2]] [] w) := by
  unfold impl_FullCliques_2.f at H
  refine enterM (n := 9) hp Try.func96 rfl rfl (Nat.le_of_ble_eq_true rfl) fun a w ht hm => ?_
  refine wp_seq ?_
  refine wpr ?_
  refine wpl_box rfl rfl ht hm rfl rfl rfl ?_
  intro b1 a ht w hm
  refine wpl rfl rfl ht (ev_assign ht rfl rfl) ?_
  intro a ht
  refine wpList_nil ?_
  refine then_normal ?_
  refine wp_seq ?_
  refine wpr ?_
  refine wpl rfl rfl ht (ev_makeFunc ht rfl rfl rfl) ?_
  intro a ht
  obtain ⟨t2, et2, H⟩ := bind_get H
  have hcall := impl_Colouring_that__FullCliques_2_1.calls k _ _ b b1 A c m b2 x list x2 _ ((fun (hq : Ms _ _ _ ([.blk b 28 (Col.cells x), .blk b1 25 [.slice A m c], .blk b2 2 [.int .i64 x2]] ++ []) _ _) => hq.lend (φp := [IntsAt A c m list]) (allRO_cons (hq.lendFact 0 rfl) (allRO_nil))) (hm.pick (own' := [.blk b 28 (Col.cells x), .blk b1 25 [.slice A m c], .blk b2 2 [.int .i64 x2]] ++ []) [1, 0, 2] rfl (by decide))) et2
  refine wpl_call _ rfl rfl ht rfl rfl rfl rfl can_90 hcall ?_
  clear hcall
  rintro _ w ⟨A3, c4, m5, rfl, hpost⟩ a ht
  replace hm := (hm.pick (own' := [.blk b 28 (Col.cells x), .blk b1 25 [.slice A m c], .blk b2 2 [.int .i64 x2]] ++ []) [1, 0, 2] rfl (by decide)).backL hpost
  clear hpost
  refine wpl rfl rfl ht (ev_len_of ht rfl rfl und_25 (hm.vec_row 0 rfl)) ?_
  intro a ht
  refine wpl rfl rfl ht (ev_cmp ht rfl rfl rfl rfl) ?_
  intro a ht
  refine wpl rfl rfl ht (ev_assign ht rfl rfl) ?_
  intro a ht
  refine wpList_nil ?_
  refine then_normal ?_
  refine wp_ret ?_
  have hres := ht.res (P := Try.prog) (w := w) (rs := [.tmp 4]) (vs := [.bool (decide ((t2.length : Int) = 0))]) (.tmp rfl .nil)
  obtain rfl := Option.some.inj H
  exact leave ht rfl hres ⟨rfl, ((hm.pick [1, 3] rfl (by decide)).pickφ [] rfl).post fun _ h => h⟩

/-! ### impl_Colouring_listThat_1__FullCliques_2: function 112 ((*loop.example/g01362/impl.Colouring).listThat$1) -/
def impl_Colouring_listThat_1__FullCliques_2.f (k : Nat) (list : List Int) (list2 : List (List Int)) (x : Col) (x2 : Int) : Option (Bool × List (List Int)) := (impl_FullCliques_2.f k list x x2).bind fun t2 => if t2 = true then ((concatR list2 ([list])).bind fun l8 => some (decide ((l8.length : Int) ≤ 200), l8)) else (some (decide ((list2.length : Int) ≤ 200), list2))
set_option maxRecDepth 100000 in
set_option maxHeartbeats 1000000 in
theorem impl_Colouring_listThat_1__FullCliques_2.calls (k : Nat) (X : List Nat) (w0 : World) (B : Nat) (A : Option Addr) (c : Nat) (m : Nat) (A2 : Option Addr) (c2 : Nat) (m2 : Nat) (vs : List Value) (b : Nat) (b2 : Nat) (b3 : Nat) (b4 : Nat) (list : List Int) (list2 : List (List Int)) (x : Col) (x2 : Int) (r : Bool × List (List Int))
    (hp : Pre X w0 [.vec A2 c2 25 1 m2 vs, .blk b 62 [.func (.func 96) [].toArray [.pointer (some ⟨b2, 0, none⟩), .pointer (some ⟨b3, 0, none⟩)].toArray], .blk b2 28 (Col.cells x), .blk b3 2 [.int .i64 x2], .blk b4 49 [.slice A2 m2 c2]] [OwnAt B 2 A c m list, AllOwn B 2 vs list2, NewTo A c vs]) (hB : B ≤ w0.heap.size) (hV0 : ∀ b ∈ (HL.vec A2 c2 25 1 m2 (vs)).fp, B ≤ b) (H : impl_Colouring_listThat_1__FullCliques_2.f k list list2 x x2 = some r) :
    Calls Try.prog 112 [.slice A m c, .pointer (some ⟨b, 0, none⟩), .pointer (some ⟨b4, 0, none⟩)].toArray w0 (Ret fun v w => ∃ (B_4_0 : Option Addr) (d_4_0 : Nat) (m_4_0 : Nat) (us_4_0 : List Value), v = .bool r.1 ∧ Post X (fps [.vec A2 c2 25 1 m2 vs, .blk b 62 [.func (.func 96) [].toArray [.pointer (some ⟨b2, 0, none⟩), .pointer (some ⟨b3, 0, none⟩)].toArray], .blk b2 28 (Col.cells x), .blk b3 2 [.int .i64 x2], .blk b4 49 [.slice A2 m2 c2]]) w0 [.blk b 62 [.func (.func 96) [].toArray [.pointer (some ⟨b2, 0, none⟩), .pointer (some ⟨b3, 0, none⟩)].toArray], .blk b2 28 (Col.cells x), .blk b3 2 [.int .i64 x2], .vec B_4_0 d_4_0 25 1 m_4_0 us_4_0, .blk b4 49 [.slice B_4_0 m_4_0 d_4_0]] [AllOwn B 2 us_4_0 r.2] w) := by
  unfold impl_Colouring_listThat_1__FullCliques_2.f at H
  refine enterM (n := 15) hp Try.func112 rfl rfl (Nat.le_of_ble_eq_true rfl) fun a w ht hm => ?_
  refine wp_seq ?_
  refine wpr ?_
  refine wpl rfl rfl ht (ev_assign ht rfl rfl) ?_
  intro a ht
  refine wpList_nil ?_
  refine then_normal ?_
  refine wp_seq ?_
  refine wp_seq ?_
  refine wpr ?_
  refine wpl rfl rfl ht (ev_load ht rfl rfl sc_62 (hm.blk_cell 1 rfl rfl)) ?_
  intro a ht
  refine wpl rfl rfl ht (ev_move ht rfl rfl) ?_
  intro a ht
  replace hm : Ms _ _ _ _ (IntsAt A c m list :: _) w := hm.addφ ((hm.ro (φ := OwnAt B 2 A c m list) 0 rfl).mono fun w h => OwnAt.row h)
  obtain ⟨t2, et2, H⟩ := bind_get H
  have hcall := impl_FullCliques_2.calls k _ _ A c m b2 b3 list x x2 _ ((fun (hq : Ms _ _ _ ([.blk b2 28 (Col.cells x), .blk b3 2 [.int .i64 x2]] ++ [.vec A2 c2 25 1 m2 vs, .blk b 62 [.func (.func 96) [].toArray [.pointer (some ⟨b2, 0, none⟩), .pointer (some ⟨b3, 0, none⟩)].toArray], .blk b4 49 [.slice A2 m2 c2]]) _ _) => hq.lend (φp := [IntsAt A c m list]) (allRO_cons (hq.lendFact 0 rfl) (allRO_nil))) (hm.pick (own' := [.blk b2 28 (Col.cells x), .blk b3 2 [.int .i64 x2]] ++ [.vec A2 c2 25 1 m2 vs, .blk b 62 [.func (.func 96) [].toArray [.pointer (some ⟨b2, 0, none⟩), .pointer (some ⟨b3, 0, none⟩)].toArray], .blk b4 49 [.slice A2 m2 c2]]) [2, 3, 0, 1, 4] rfl (by decide))) et2
  refine wpl_call _ rfl rfl ht rfl rfl rfl rfl can_96 hcall ?_
  clear hcall
  rintro _ w ⟨rfl, hpost⟩ a ht
  replace hm := (hm.pick (own' := [.blk b2 28 (Col.cells x), .blk b3 2 [.int .i64 x2]] ++ [.vec A2 c2 25 1 m2 vs, .blk b 62 [.func (.func 96) [].toArray [.pointer (some ⟨b2, 0, none⟩), .pointer (some ⟨b3, 0, none⟩)].toArray], .blk b4 49 [.slice A2 m2 c2]]) [2, 3, 0, 1, 4] rfl (by decide)).backL hpost
  clear hpost
  refine wpList_nil ?_
  refine then_normal ?_
  by_cases h3 : t2 = true
  · replace H := ite_yes h3 H
    refine wpc_yes ht rfl h3 ?_
    refine wpr ?_
    refine wpl rfl rfl ht (ev_load ht rfl rfl sc_49 (hm.blk_cell 4 rfl rfl)) ?_
    intro a ht
    refine wpl rfl rfl ht (ev_move ht rfl rfl) ?_
    intro a ht
    replace hm : Ms _ _ _ _ (AllOwn B 2 ([.slice A m c]) ([list]) :: _) w := hm.addφ (allOwn_one (hm.ro 1 rfl))
    refine wpl_buildSlice (vs := [.slice A m c]) rfl rfl ht hm rfl und_49 zo_25 sz1_25 (by decide) rfl rfl rfl ?_
    intro A4 a ht w hm
    obtain ⟨l8, el8, H⟩ := bind_get H
    replace hm : Ms _ _ _ _ (AllOwn B 2 (vs ++ ([.slice A m c])) l8 :: _) w := hm.addφ (allOwn_append el8 (hm.ro 3 rfl) (hm.ro 0 rfl) (newTo_one (hm.fact (φ := NewTo A c vs) 4 rfl)))
    refine wpl_concat_rowsO (r := l8) 3 0 rfl rfl ht hm rfl ap_49 rfl rfl rfl rfl (hm.rowsOfO 3 4 rfl rfl) (hm.rowsOfO 0 1 rfl rfl) el8 ?_
    intro A5 c6 m7 a ht w hm
    refine wpl_store_blk 5 rfl rfl ht hm rfl rfl rfl sz1_49 rfl rfl rfl ?_
    intro a ht w hm
    refine wpList_nil ?_
    refine then_normal ?_
    refine wp_seq ?_
    refine wpr ?_
    refine wpl rfl rfl ht (ev_load ht rfl rfl sc_49 (hm.blk_cell 5 rfl rfl)) ?_
    intro a ht
    refine wpl rfl rfl ht (ev_len_rows ht rfl rfl und_49 (hm.rowsOfO 3 0 rfl rfl)) ?_
    intro a ht
    refine wpl rfl rfl ht (ev_cmp ht rfl rfl rfl rfl) ?_
    intro a ht
    refine wpl rfl rfl ht (ev_assign ht rfl rfl) ?_
    intro a ht
    refine wpList_nil ?_
    refine then_normal ?_
    refine wp_ret ?_
    have hres := ht.res (P := Try.prog) (w := w) (rs := [.tmp 4]) (vs := [.bool (decide ((l8.length : Int) ≤ 200))]) (.tmp rfl .nil)
    obtain rfl := Option.some.inj H
    exact leave ht rfl hres ⟨A5, c6, m7, (vs ++ ([.slice A m c])), rfl, ((hm.pick [4, 1, 2, 3, 5] rfl (by decide)).pickφ [0] rfl).post fun _ h => h⟩
  · replace H := ite_no h3 H
    refine wpc_no ht rfl (Bool.eq_false_iff.mpr h3) ?_
    refine wp_skip ?_
    refine then_normal ?_
    refine wp_seq ?_
    refine wpr ?_
    refine wpl rfl rfl ht (ev_load ht rfl rfl sc_49 (hm.blk_cell 4 rfl rfl)) ?_
    intro a ht
    refine wpl rfl rfl ht (ev_len_rows ht rfl rfl und_49 (hm.rowsOfO 2 2 rfl rfl)) ?_
    intro a ht
    refine wpl rfl rfl ht (ev_cmp ht rfl rfl rfl rfl) ?_
    intro a ht
    refine wpl rfl rfl ht (ev_assign ht rfl rfl) ?_
    intro a ht
    refine wpList_nil ?_
    refine then_normal ?_
    refine wp_ret ?_
    have hres := ht.res (P := Try.prog) (w := w) (rs := [.tmp 4]) (vs := [.bool (decide ((list2.length : Int) ≤ 200))]) (.tmp rfl .nil)
    obtain rfl := Option.some.inj H
    exact leave ht rfl hres ⟨A2, c2, m2, vs, rfl, ((hm.pick [3, 0, 1, 2, 4] rfl (by decide)).pickφ [2] rfl).post fun _ h => h⟩

/-! ### slices_Clone_int64_int64: function 123 (slices.Clone[[]int64,int64]) -/
def slices_Clone_int64_int64.f (s : List Int) : Option (List Int) := (concat ([] : List Int) s).bind fun l6 => some l6
set_option maxRecDepth 100000 in
set_option maxHeartbeats 1000000 in
theorem slices_Clone_int64_int64.calls (X : List Nat) (w0 : World) (A : Option Addr) (c : Nat) (m : Nat) (s : List Int) (r : List Int)
    (hp : Pre X w0 [] [IntsAt A c m s]) (H : slices_Clone_int64_int64.f s = some r) :
    Calls Try.prog 123 [.slice A m c].toArray w0 (Ret fun v w => ∃ (A_0 : Option Addr) (c_0 : Nat) (n_0 : Nat), v = .slice A_0 n_0 c_0 ∧ Post X (fps []) w0 [.vec A_0 c_0 2 1 n_0 (ints r)] [] w) := by
  unfold slices_Clone_int64_int64.f at H
  refine enterM (n := 8) hp Try.func123 rfl rfl (Nat.le_of_ble_eq_true rfl) fun a w ht hm => ?_
  refine wp_seq ?_
  refine wpr ?_
  refine wpl rfl rfl ht (ev_assign ht rfl rfl) ?_
  intro a ht
  refine wpList_nil ?_
  refine then_normal ?_
  refine wp_seq ?_
  refine wp_seq ?_
  refine wpr ?_
  refine wpl rfl rfl ht (ev_move ht rfl rfl) ?_
  intro a ht
  cases A with
  | none =>
    have hnil : s = [] := IntsAt.none (hm.fact (φ := IntsAt none c m s) 0 rfl)
    refine wpl rfl rfl ht (ev_eq_nil_none ht rfl rfl rfl und_25) ?_
    intro a ht
    refine wpList_nil ?_
    refine then_normal ?_
    refine wpc_yes ht rfl rfl ?_
    refine wp_seq ?_
    refine wpr ?_
    refine wpl rfl rfl ht (ev_assign ht rfl rfl) ?_
    intro a ht
    refine wpList_nil ?_
    refine then_normal ?_
    refine wp_ret ?_
    refine then_ret ?_
    have hres := ht.res (P := Try.prog) (w := w) (rs := [.tmp 2]) (vs := [.slice none 0 0]) (.tmp rfl .nil)
    replace hm : Ms _ _ _ (.vec none 0 2 1 0 (ints ([] : List Int)) :: _) _ w := hm.nilVec none 2 1
    obtain rfl : r = [] := by rw [hnil] at H; exact clone_nil H
    exact leave ht rfl hres ⟨none, 0, 0, rfl, ((hm.pick [0] rfl (by decide)).pickφ [] rfl).post fun _ h => h⟩
  | some A =>
    refine wpl rfl rfl ht (ev_eq_nil_some ht rfl rfl rfl und_25) ?_
    intro a ht
    refine wpList_nil ?_
    refine then_normal ?_
    refine wpc_no ht rfl rfl ?_
    refine wp_skip ?_
    refine then_normal ?_
    refine wp_seq ?_
    refine wpr ?_
    refine wpl_build_ints (l := ([] : List Int)) rfl rfl ht hm rfl und_25 zo_2 sz1_2 (by decide) rfl rfl rfl ?_
    intro A2 a ht w hm
    refine wpl rfl rfl ht (ev_move ht rfl rfl) ?_
    intro a ht
    obtain ⟨l6, el6, H⟩ := bind_get H
    refine wpl_concat (r := l6) 0 rfl rfl ht hm rfl ap_25 rfl rfl rfl (hm.fact (φ := IntsAt (some A) c m s) 0 rfl) el6 ?_
    intro A3 c4 m5 a ht w hm
    refine wpl rfl rfl ht (ev_assign ht rfl rfl) ?_
    intro a ht
    refine wpList_nil ?_
    refine then_normal ?_
    refine wp_ret ?_
    have hres := ht.res (P := Try.prog) (w := w) (rs := [.tmp 2]) (vs := [.slice A3 m5 c4]) (.tmp rfl .nil)
    obtain rfl := Option.some.inj H
    exact leave ht rfl hres ⟨A3, c4, m5, rfl, ((hm.pick [0] rfl (by decide)).pickφ [] rfl).post fun _ h => h⟩

end Go.Proofs.Ytdpamdedomkomaa.G
