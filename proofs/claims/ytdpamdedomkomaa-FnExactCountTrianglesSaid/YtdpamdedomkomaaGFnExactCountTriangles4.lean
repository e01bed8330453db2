/- What each Go function computes, as a Lean function, and the proof that it does: written by a program of this session (wip/gen), part 4. -/
import Derived.Test.YtdpamdedomkomaaGFnExactCountTriangles3
namespace Go.Proofs.Ytdpamdedomkomaa.G
open Go Go.RowKit Go.Proofs.Ytdpamdedomkomaa.K
set_option linter.unusedVariables false
set_option linter.unusedSimpArgs false

/-! ### slices_IndexFunc_int64_int64__Colouring_goesWith_1: function 128 (slices.IndexFunc[[]int64,int64]) -/
def slices_IndexFunc_int64_int64__Colouring_goesWith_1.l0 : Nat → List Int → Col → Int → Int → Int → Option (Int)
  | 0, _, _, _, _, _ => none
  | q1 + 1, s, f, f2, f3, xs0_1 => if xs0_1 < (s.length : Int) then ((getI s xs0_1).bind fun t3 => (impl_Colouring_goesWith_1.f t3 f f2 f3).bind fun t4 => if t4 = true then (some xs0_1) else (slices_IndexFunc_int64_int64__Colouring_goesWith_1.l0 q1 s f f2 f3 (w64 (xs0_1 + 1)))) else (some (-1))
def slices_IndexFunc_int64_int64__Colouring_goesWith_1.f (k : Nat) (s : List Int) (f : Col) (f2 : Int) (f3 : Int) : Option (Int) := slices_IndexFunc_int64_int64__Colouring_goesWith_1.l0 k s f f2 f3 0
set_option maxRecDepth 100000 in
set_option maxHeartbeats 1000000 in
theorem slices_IndexFunc_int64_int64__Colouring_goesWith_1.calls (k : Nat) (X : List Nat) (w0 : World) (A : Option Addr) (c : Nat) (m : Nat) (b : Nat) (b2 : Nat) (b3 : Nat) (b4 : Nat) (s : List Int) (f : Col) (f2 : Int) (f3 : Int) (r : Int)
    (hp : Pre X w0 [.blk b 87 [.pointer (some ⟨b2, 0, none⟩)], .blk b2 28 (Col.cells f), .blk b3 2 [.int .i64 f2], .blk b4 2 [.int .i64 f3]] [IntsAt A c m s]) (H : slices_IndexFunc_int64_int64__Colouring_goesWith_1.f k s f f2 f3 = some r) :
    Calls Try.prog 128 [.slice A m c, .func (.func 120) [].toArray [.pointer (some ⟨b, 0, none⟩), .pointer (some ⟨b3, 0, none⟩), .pointer (some ⟨b4, 0, none⟩)].toArray].toArray w0 (Ret fun v w => v = .int .i64 r ∧ Post X (fps [.blk b 87 [.pointer (some ⟨b2, 0, none⟩)], .blk b2 28 (Col.cells f), .blk b3 2 [.int .i64 f2], .blk b4 2 [.int .i64 f3]]) w0 [.blk b 87 [.pointer (some ⟨b2, 0, none⟩)], .blk b2 28 (Col.cells f), .blk b3 2 [.int .i64 f2], .blk b4 2 [.int .i64 f3]] [] w) := by
  unfold slices_IndexFunc_int64_int64__Colouring_goesWith_1.f at H
  refine enterM (n := 19) hp Try.func128 rfl rfl (Nat.le_of_ble_eq_true rfl) fun a w ht hm => ?_
  refine wp_seq ?_
  refine wpr ?_
  refine wpl rfl rfl ht (ev_assign ht rfl rfl) ?_
  intro a ht
  refine wpList_nil ?_
  refine then_normal ?_
  refine wp_seq ?_
  refine wp_seq ?_
  refine wpr ?_
  refine wpl rfl rfl ht (ev_move ht rfl rfl) ?_
  intro a ht
  refine wpl rfl rfl ht (ev_len_of ht rfl rfl und_25 (hm.fact (φ := IntsAt A c m s) 0 rfl)) ?_
  intro a ht
  refine wpl rfl rfl ht (ev_move ht rfl rfl) ?_
  intro a ht
  refine wpList_nil ?_
  refine then_normal ?_
  refine wp_block ?_
  refine wpLoop (fun q a w => ∃ (xs0_1 : Int), slices_IndexFunc_int64_int64__Colouring_goesWith_1.l0 q s f f2 f3 xs0_1 = some r ∧ q ≤ k ∧ Tm 19 [(0, .slice A m c), (1, .func (.func 120) [].toArray [.pointer (some ⟨b, 0, none⟩), .pointer (some ⟨b3, 0, none⟩), .pointer (some ⟨b4, 0, none⟩)].toArray), (4, .int .i64 0), (7, .int .i64 (s.length : Int)), (8, .int .i64 xs0_1)] a ∧ Ms X (fps [.blk b 87 [.pointer (some ⟨b2, 0, none⟩)], .blk b2 28 (Col.cells f), .blk b3 2 [.int .i64 f2], .blk b4 2 [.int .i64 f3]]) w0 [.blk b 87 [.pointer (some ⟨b2, 0, none⟩)], .blk b2 28 (Col.cells f), .blk b3 2 [.int .i64 f2], .blk b4 2 [.int .i64 f3]] [IntsAt A c m s] w) (k0 := k) ⟨0, H, Nat.le_refl _, ht.sub ⟨rfl, rfl, rfl, rfl, rfl, trivial⟩, (hm.pick [0, 1, 2, 3] rfl (by decide)).pickφ [0] rfl⟩ ?_
  clear H ht hm
  intro q1 a w hJ
  obtain ⟨xs0_1, H, hqq1, ht, hm⟩ := hJ
  cases q1 with
  | zero => cases H
  | succ q1 =>
  rw [slices_IndexFunc_int64_int64__Colouring_goesWith_1.l0] at H
  refine wp_seq ?_
  refine wpr ?_
  refine wpl rfl rfl ht (ev_cmp ht rfl rfl rfl rfl) ?_
  intro a ht
  refine wpList_nil ?_
  refine then_normal ?_
  refine wp_seq ?_
  by_cases h2 : xs0_1 < (s.length : Int)
  · replace H := ite_yes h2 H
    refine wpc_yes ht rfl (decide_eq_true h2) ?_
    refine wp_skip ?_
    refine then_normal ?_
    refine wp_seq ?_
    refine wp_block ?_
    refine wp_seq ?_
    refine wpr ?_
    refine wpl rfl rfl ht (ev_move ht rfl rfl) ?_
    intro a ht
    refine wpl rfl rfl ht (ev_assign ht rfl rfl) ?_
    intro a ht
    refine wpList_nil ?_
    refine then_normal ?_
    refine wp_seq ?_
    refine wpr ?_
    refine wpl rfl rfl ht (ev_move ht rfl rfl) ?_
    intro a ht
    refine wpl rfl rfl ht (ev_move ht rfl rfl) ?_
    intro a ht
    refine wpl rfl rfl ht (ev_move ht rfl rfl) ?_
    intro a ht
    obtain ⟨t3, et3, H⟩ := bind_get H
    refine wpl rfl rfl ht (ev_index_ints ht rfl rfl rfl so_25 (hm.fact (φ := IntsAt A c m s) 0 rfl) et3) ?_
    intro a ht
    refine wpl rfl rfl ht (ev_load ht rfl rfl sc_2 (RowAt.cell (hm.fact (φ := IntsAt A c m s) 0 rfl) (ints_get et3) rfl)) ?_
    intro a ht
    obtain ⟨t4, et4, H⟩ := bind_get H
    have hcall := impl_Colouring_goesWith_1.calls _ _ b b2 b3 b4 t3 f f2 f3 _ ((fun (hq : Ms _ _ _ ([.blk b 87 [.pointer (some ⟨b2, 0, none⟩)], .blk b2 28 (Col.cells f), .blk b3 2 [.int .i64 f2], .blk b4 2 [.int .i64 f3]] ++ []) _ _) => hq.lend (φp := []) (allRO_nil)) (hm.pick (own' := [.blk b 87 [.pointer (some ⟨b2, 0, none⟩)], .blk b2 28 (Col.cells f), .blk b3 2 [.int .i64 f2], .blk b4 2 [.int .i64 f3]] ++ []) [0, 1, 2, 3] rfl (by decide))) et4
    refine wpl_call _ rfl rfl ht rfl rfl rfl rfl can_120 hcall ?_
    clear hcall
    rintro _ w ⟨rfl, hpost⟩ a ht
    replace hm := (hm.pick (own' := [.blk b 87 [.pointer (some ⟨b2, 0, none⟩)], .blk b2 28 (Col.cells f), .blk b3 2 [.int .i64 f2], .blk b4 2 [.int .i64 f3]] ++ []) [0, 1, 2, 3] rfl (by decide)).backL hpost
    clear hpost
    refine wpList_nil ?_
    refine then_normal ?_
    by_cases h5 : t4 = true
    · replace H := ite_yes h5 H
      refine wpc_yes ht rfl h5 ?_
      refine wp_seq ?_
      refine wpr ?_
      refine wpl rfl rfl ht (ev_move ht rfl rfl) ?_
      intro a ht
      refine wpl rfl rfl ht (ev_assign ht rfl rfl) ?_
      intro a ht
      refine wpList_nil ?_
      refine then_normal ?_
      refine wp_ret ?_
      refine blk_ret ?_
      refine then_ret ?_
      refine then_ret ?_
      refine blk_ret ?_
      refine then_ret ?_
      have hres := ht.res (P := Try.prog) (w := w) (rs := [.tmp 4]) (vs := [.int .i64 xs0_1]) (.tmp rfl .nil)
      obtain rfl := Option.some.inj H
      exact leave ht rfl hres ⟨rfl, ((hm.pick [0, 1, 2, 3] rfl (by decide)).pickφ [] rfl).post fun _ h => h⟩
    · replace H := ite_no h5 H
      refine wpc_no ht rfl (Bool.eq_false_iff.mpr h5) ?_
      refine wp_skip ?_
      refine blk_normal ?_
      refine then_normal ?_
      refine wpr ?_
      refine wpl rfl rfl ht (ev_arith ht rfl rfl rfl rfl) ?_
      intro a ht
      refine wpl rfl rfl ht (ev_move ht rfl rfl) ?_
      intro a ht
      refine wpList_nil ?_
      exact then_normal ⟨q1, by omega, (w64 (xs0_1 + 1)), H, by omega, ht.sub ⟨rfl, rfl, rfl, rfl, rfl, trivial⟩, (hm.pick [0, 1, 2, 3] rfl (by decide)).pickφ [0] rfl⟩
  · replace H := ite_no h2 H
    refine wpc_no ht rfl (decide_eq_false h2) ?_
    refine wp_exit ?_
    refine then_exit ?_
    refine then_exit ?_
    refine blk_hit ?_
    refine then_normal ?_
    refine wp_seq ?_
    refine wpr ?_
    refine wpl rfl rfl ht (ev_assign ht rfl rfl) ?_
    intro a ht
    refine wpList_nil ?_
    refine then_normal ?_
    refine wp_ret ?_
    have hres := ht.res (P := Try.prog) (w := w) (rs := [.tmp 4]) (vs := [.int .i64 (-1)]) (.tmp rfl .nil)
    obtain rfl := Option.some.inj H
    exact leave ht rfl hres ⟨rfl, ((hm.pick [0, 1, 2, 3] rfl (by decide)).pickφ [] rfl).post fun _ h => h⟩

/-! ### slices_ContainsFunc_int64_int64__Colouring_goesWith_1: function 119 (slices.ContainsFunc[[]int64,int64]) -/
def slices_ContainsFunc_int64_int64__Colouring_goesWith_1.f (k : Nat) (s : List Int) (f : Col) (f2 : Int) (f3 : Int) : Option (Bool) := (slices_IndexFunc_int64_int64__Colouring_goesWith_1.f k s f f2 f3).bind fun t1 => some (decide (t1 ≥ 0))
set_option maxRecDepth 100000 in
set_option maxHeartbeats 1000000 in
theorem slices_ContainsFunc_int64_int64__Colouring_goesWith_1.calls (k : Nat) (X : List Nat) (w0 : World) (A : Option Addr) (c : Nat) (m : Nat) (b : Nat) (b2 : Nat) (b3 : Nat) (b4 : Nat) (s : List Int) (f : Col) (f2 : Int) (f3 : Int) (r : Bool)
    (hp : Pre X w0 [.blk b 87 [.pointer (some ⟨b2, 0, none⟩)], .blk b2 28 (Col.cells f), .blk b3 2 [.int .i64 f2], .blk b4 2 [.int .i64 f3]] [IntsAt A c m s]) (H : slices_ContainsFunc_int64_int64__Colouring_goesWith_1.f k s f f2 f3 = some r) :
    Calls Try.prog 119 [.slice A m c, .func (.func 120) [].toArray [.pointer (some ⟨b, 0, none⟩), .pointer (some ⟨b3, 0, none⟩), .pointer (some ⟨b4, 0, none⟩)].toArray].toArray w0 (Ret fun v w => v = .bool r ∧ Post X (fps [.blk b 87 [.pointer (some ⟨b2, 0, none⟩)], .blk b2 28 (Col.cells f), .blk b3 2 [.int .i64 f2], .blk b4 2 [.int .i64 f3]]) w0 [.blk b 87 [.pointer (some ⟨b2, 0, none⟩)], .blk b2 28 (Col.cells f), .blk b3 2 [.int .i64 f2], .blk b4 2 [.int .i64 f3]] [] w) := by
  unfold slices_ContainsFunc_int64_int64__Colouring_goesWith_1.f at H
  refine enterM (n := 9) hp Try.func119 rfl rfl (Nat.le_of_ble_eq_true rfl) fun a w ht hm => ?_
  refine wp_seq ?_
  refine wpr ?_
  refine wpl rfl rfl ht (ev_assign ht rfl rfl) ?_
  intro a ht
  refine wpList_nil ?_
  refine then_normal ?_
  refine wp_seq ?_
  refine wpr ?_
  refine wpl rfl rfl ht (ev_move ht rfl rfl) ?_
  intro a ht
  refine wpl rfl rfl ht (ev_move ht rfl rfl) ?_
  intro a ht
  obtain ⟨t1, et1, H⟩ := bind_get H
  have hcall := slices_IndexFunc_int64_int64__Colouring_goesWith_1.calls k _ _ A c m b b2 b3 b4 s f f2 f3 _ ((fun (hq : Ms _ _ _ ([.blk b 87 [.pointer (some ⟨b2, 0, none⟩)], .blk b2 28 (Col.cells f), .blk b3 2 [.int .i64 f2], .blk b4 2 [.int .i64 f3]] ++ []) _ _) => hq.lend (φp := [IntsAt A c m s]) (allRO_cons (hq.lendFact 0 rfl) (allRO_nil))) (hm.pick (own' := [.blk b 87 [.pointer (some ⟨b2, 0, none⟩)], .blk b2 28 (Col.cells f), .blk b3 2 [.int .i64 f2], .blk b4 2 [.int .i64 f3]] ++ []) [0, 1, 2, 3] rfl (by decide))) et1
  refine wpl_call _ rfl rfl ht rfl rfl rfl rfl can_128 hcall ?_
  clear hcall
  rintro _ w ⟨rfl, hpost⟩ a ht
  replace hm := (hm.pick (own' := [.blk b 87 [.pointer (some ⟨b2, 0, none⟩)], .blk b2 28 (Col.cells f), .blk b3 2 [.int .i64 f2], .blk b4 2 [.int .i64 f3]] ++ []) [0, 1, 2, 3] rfl (by decide)).backL hpost
  clear hpost
  refine wpl rfl rfl ht (ev_cmp ht rfl rfl rfl rfl) ?_
  intro a ht
  refine wpl rfl rfl ht (ev_assign ht rfl rfl) ?_
  intro a ht
  refine wpList_nil ?_
  refine then_normal ?_
  refine wp_ret ?_
  have hres := ht.res (P := Try.prog) (w := w) (rs := [.tmp 4]) (vs := [.bool (decide (t1 ≥ 0))]) (.tmp rfl .nil)
  obtain rfl := Option.some.inj H
  exact leave ht rfl hres ⟨rfl, ((hm.pick [0, 1, 2, 3] rfl (by decide)).pickφ [] rfl).post fun _ h => h⟩

/-! ### impl_Colouring_goesWith: function 98 ((*loop.example/g01362/impl.Colouring).goesWith) -/
def impl_Colouring_goesWith.f (k : Nat) (x : Col) (c : Int) (list : List Int) (p : Int) : Option (Bool) := (slices_ContainsFunc_int64_int64__Colouring_goesWith_1.f k list x p c).bind fun t4 => some !t4
set_option maxRecDepth 100000 in
set_option maxHeartbeats 1000000 in
theorem impl_Colouring_goesWith.calls (k : Nat) (X : List Nat) (w0 : World) (b : Nat) (A : Option Addr) (c2 : Nat) (m : Nat) (x : Col) (c : Int) (list : List Int) (p : Int) (r : Bool)
    (hp : Pre X w0 [.blk b 28 (Col.cells x)] [IntsAt A c2 m list]) (H : impl_Colouring_goesWith.f k x c list p = some r) :
    Calls Try.prog 98 [.pointer (some ⟨b, 0, none⟩), .int .i64 c, .slice A m c2, .int .i64 p].toArray w0 (Ret fun v w => v = .bool r ∧ Post X (fps [.blk b 28 (Col.cells x)]) w0 [.blk b 28 (Col.cells x)] [] w) := by
  unfold impl_Colouring_goesWith.f at H
  refine enterM (n := 13) hp Try.func98 rfl rfl (Nat.le_of_ble_eq_true rfl) fun a w ht hm => ?_
  refine wp_seq ?_
  refine wpr ?_
  refine wpl_box rfl rfl ht hm rfl rfl rfl ?_
  intro b1 a ht w hm
  refine wpl_box rfl rfl ht hm rfl rfl rfl ?_
  intro b2 a ht w hm
  refine wpl_box rfl rfl ht hm rfl rfl rfl ?_
  intro b3 a ht w hm
  refine wpl rfl rfl ht (ev_assign ht rfl rfl) ?_
  intro a ht
  refine wpList_nil ?_
  refine then_normal ?_
  refine wp_seq ?_
  refine wpr ?_
  refine wpl rfl rfl ht (ev_move ht rfl rfl) ?_
  intro a ht
  refine wpl rfl rfl ht (ev_makeFunc ht rfl rfl rfl) ?_
  intro a ht
  obtain ⟨t4, et4, H⟩ := bind_get H
  have hcall := slices_ContainsFunc_int64_int64__Colouring_goesWith_1.calls k _ _ A c2 m b1 b b3 b2 list x p c _ ((fun (hq : Ms _ _ _ ([.blk b1 87 [.pointer (some ⟨b, 0, none⟩)], .blk b 28 (Col.cells x), .blk b3 2 [.int .i64 p], .blk b2 2 [.int .i64 c]] ++ []) _ _) => hq.lend (φp := [IntsAt A c2 m list]) (allRO_cons (hq.lendFact 0 rfl) (allRO_nil))) (hm.pick (own' := [.blk b1 87 [.pointer (some ⟨b, 0, none⟩)], .blk b 28 (Col.cells x), .blk b3 2 [.int .i64 p], .blk b2 2 [.int .i64 c]] ++ []) [2, 3, 0, 1] rfl (by decide))) et4
  refine wpl_call _ rfl rfl ht rfl rfl rfl rfl can_119 hcall ?_
  clear hcall
  rintro _ w ⟨rfl, hpost⟩ a ht
  replace hm := (hm.pick (own' := [.blk b1 87 [.pointer (some ⟨b, 0, none⟩)], .blk b 28 (Col.cells x), .blk b3 2 [.int .i64 p], .blk b2 2 [.int .i64 c]] ++ []) [2, 3, 0, 1] rfl (by decide)).backL hpost
  clear hpost
  refine wpl rfl rfl ht (ev_not ht rfl rfl) ?_
  intro a ht
  refine wpl rfl rfl ht (ev_assign ht rfl rfl) ?_
  intro a ht
  refine wpList_nil ?_
  refine then_normal ?_
  refine wp_ret ?_
  have hres := ht.res (P := Try.prog) (w := w) (rs := [.tmp 8]) (vs := [.bool !t4]) (.tmp rfl .nil)
  obtain rfl := Option.some.inj H
  exact leave ht rfl hres ⟨rfl, ((hm.pick [1] rfl (by decide)).pickφ [] rfl).post fun _ h => h⟩

/-! ### slices_Clone_int64_int64: function 123 (slices.Clone[[]int64,int64]) -/
def slices_Clone_int64_int64.f (s : List Int) : Option (List Int) := (concat ([] : List Int) s).bind fun l6 => some l6
set_option maxRecDepth 100000 in
set_option maxHeartbeats 1000000 in
theorem slices_Clone_int64_int64.calls (X : List Nat) (w0 : World) (A : Option Addr) (c : Nat) (m : Nat) (s : List Int) (r : List Int)
    (hp : Pre X w0 [] [IntsAt A c m s]) (H : slices_Clone_int64_int64.f s = some r) :
    Calls Try.prog 123 [.slice A m c].toArray w0 (Ret fun v w => ∃ (A_0 : Option Addr) (c_0 : Nat) (n_0 : Nat), v = .slice A_0 n_0 c_0 ∧ Post X (fps []) w0 [.vec A_0 c_0 2 1 n_0 (ints r)] [] w) := by
  unfold slices_Clone_int64_int64.f at H
  refine enterM (n := 8) hp Try.func123 rfl rfl (Nat.le_of_ble_eq_true rfl) fun a w ht hm => ?_
  refine wp_seq ?_
  refine wpr ?_
  refine wpl rfl rfl ht (ev_assign ht rfl rfl) ?_
  intro a ht
  refine wpList_nil ?_
  refine then_normal ?_
  refine wp_seq ?_
  refine wp_seq ?_
  refine wpr ?_
  refine wpl rfl rfl ht (ev_move ht rfl rfl) ?_
  intro a ht
  cases A with
  | none =>
    have hnil : s = [] := IntsAt.none (hm.fact (φ := IntsAt none c m s) 0 rfl)
    refine wpl rfl rfl ht (ev_eq_nil_none ht rfl rfl rfl und_25) ?_
    intro a ht
    refine wpList_nil ?_
    refine then_normal ?_
    refine wpc_yes ht rfl rfl ?_
    refine wp_seq ?_
    refine wpr ?_
    refine wpl rfl rfl ht (ev_assign ht rfl rfl) ?_
    intro a ht
    refine wpList_nil ?_
    refine then_normal ?_
    refine wp_ret ?_
    refine then_ret ?_
    have hres := ht.res (P := Try.prog) (w := w) (rs := [.tmp 2]) (vs := [.slice none 0 0]) (.tmp rfl .nil)
    replace hm : Ms _ _ _ (.vec none 0 2 1 0 (ints ([] : List Int)) :: _) _ w := hm.nilVec none 2 1
    obtain rfl : r = [] := by rw [hnil] at H; exact clone_nil H
    exact leave ht rfl hres ⟨none, 0, 0, rfl, ((hm.pick [0] rfl (by decide)).pickφ [] rfl).post fun _ h => h⟩
  | some A =>
    refine wpl rfl rfl ht (ev_eq_nil_some ht rfl rfl rfl und_25) ?_
    intro a ht
    refine wpList_nil ?_
    refine then_normal ?_
    refine wpc_no ht rfl rfl ?_
    refine wp_skip ?_
    refine then_normal ?_
    refine wp_seq ?_
    refine wpr ?_
    refine wpl_build_ints (l := ([] : List Int)) rfl rfl ht hm rfl und_25 zo_2 sz1_2 (by decide) rfl rfl rfl ?_
    intro A2 a ht w hm
    refine wpl rfl rfl ht (ev_move ht rfl rfl) ?_
    intro a ht
    obtain ⟨l6, el6, H⟩ := bind_get H
    refine wpl_concat (r := l6) 0 rfl rfl ht hm rfl ap_25 rfl rfl rfl (hm.fact (φ := IntsAt (some A) c m s) 0 rfl) el6 ?_
    intro A3 c4 m5 a ht w hm
    refine wpl rfl rfl ht (ev_assign ht rfl rfl) ?_
    intro a ht
    refine wpList_nil ?_
    refine then_normal ?_
    refine wp_ret ?_
    have hres := ht.res (P := Try.prog) (w := w) (rs := [.tmp 2]) (vs := [.slice A3 m5 c4]) (.tmp rfl .nil)
    obtain rfl := Option.some.inj H
    exact leave ht rfl hres ⟨A3, c4, m5, rfl, ((hm.pick [0] rfl (by decide)).pickφ [] rfl).post fun _ h => h⟩

/-! ### impl_Colouring_cliques__Colouring_countThat_1__anyList: function 104 ((*loop.example/g01362/impl.Colouring).cliques) -/
mutual
def impl_Colouring_cliques__Colouring_countThat_1__anyList.l0 : Nat → Col → Int → List Int → Int → Int → Int → Option (Bool × Int)
  | 0, _, _, _, _, _, _ => none
  | q5 + 1, x, c, list, with_, xs0_1, xs0_2 => if xs0_2 < x.p then ((impl_Colouring_goesWith.f q5 x c list xs0_2).bind fun t7 => if t7 = true then ((slices_Clone_int64_int64.f list).bind fun t9 => (push t9 xs0_2).bind fun l17 => (impl_Colouring_cliques__Colouring_countThat_1__anyList.f q5 x c l17 with_ xs0_1).bind fun t18 => if t18.1 = true then (impl_Colouring_cliques__Colouring_countThat_1__anyList.l0 q5 x c list with_ t18.2 (w64 (xs0_2 + 1))) else (some (false, t18.2))) else (impl_Colouring_cliques__Colouring_countThat_1__anyList.l0 q5 x c list with_ xs0_1 (w64 (xs0_2 + 1)))) else (some (true, xs0_1))
def impl_Colouring_cliques__Colouring_countThat_1__anyList.l1 : Nat → Col → Int → List Int → Int → Int → Int → Option (Bool × Int)
  | 0, _, _, _, _, _, _ => none
  | q20 + 1, x, c, list, with_, xs1_1, xs1_2 => if xs1_2 < x.p then ((impl_Colouring_goesWith.f q20 x c list xs1_2).bind fun t22 => if t22 = true then ((slices_Clone_int64_int64.f list).bind fun t24 => (push t24 xs1_2).bind fun l32 => (impl_Colouring_cliques__Colouring_countThat_1__anyList.f q20 x c l32 with_ xs1_1).bind fun t33 => if t33.1 = true then (impl_Colouring_cliques__Colouring_countThat_1__anyList.l1 q20 x c list with_ t33.2 (w64 (xs1_2 + 1))) else (some (false, t33.2))) else (impl_Colouring_cliques__Colouring_countThat_1__anyList.l1 q20 x c list with_ xs1_1 (w64 (xs1_2 + 1)))) else (some (true, xs1_1))
def impl_Colouring_cliques__Colouring_countThat_1__anyList.f : Nat → Col → Int → List Int → Int → Int → Option (Bool × Int)
  | 0, _, _, _, _, _ => none
  | k + 1, x, c, list, with_, with_2 => (impl_Colouring_countThat_1__anyList.f list with_ with_2).bind fun t1 => if t1.1 = true then (if (list.length : Int) > 0 then ((getI list (w64 ((list.length : Int) - 1))).bind fun t4 => impl_Colouring_cliques__Colouring_countThat_1__anyList.l0 k x c list with_ t1.2 (w64 (t4 + 1))) else (impl_Colouring_cliques__Colouring_countThat_1__anyList.l1 k x c list with_ t1.2 0)) else (some (false, t1.2))
end
set_option maxRecDepth 100000 in
set_option maxHeartbeats 1000000 in
theorem impl_Colouring_cliques__Colouring_countThat_1__anyList.calls (k : Nat) (X : List Nat) (w0 : World) (b : Nat) (A : Option Addr) (c2 : Nat) (m : Nat) (b2 : Nat) (b3 : Nat) (b4 : Nat) (x : Col) (c : Int) (list : List Int) (with_ : Int) (with_2 : Int) (r : Bool × Int)
    (hp : Pre X w0 [.blk b 28 (Col.cells x), .blk b2 2 [.int .i64 with_], .blk b3 62 [.func (.func 63) #[] #[]], .blk b4 2 [.int .i64 with_2]] [IntsAt A c2 m list]) (H : impl_Colouring_cliques__Colouring_countThat_1__anyList.f k x c list with_ with_2 = some r) :
    Calls Try.prog 104 [.pointer (some ⟨b, 0, none⟩), .int .i64 c, .slice A m c2, .func (.func 105) [].toArray [.pointer (some ⟨b2, 0, none⟩), .pointer (some ⟨b3, 0, none⟩), .pointer (some ⟨b4, 0, none⟩)].toArray].toArray w0 (Ret fun v w => v = .bool r.1 ∧ Post X (fps [.blk b 28 (Col.cells x), .blk b2 2 [.int .i64 with_], .blk b3 62 [.func (.func 63) #[] #[]], .blk b4 2 [.int .i64 with_2]]) w0 [.blk b 28 (Col.cells x), .blk b2 2 [.int .i64 with_], .blk b3 62 [.func (.func 63) #[] #[]], .blk b4 2 [.int .i64 r.2]] [] w) := by
  induction k using Nat.strongRecOn generalizing X w0 b A c2 m b2 b3 b4 x c list with_ with_2 r with
  | _ k ih =>
  cases k with
  | zero => cases H
  | succ k =>
  rw [impl_Colouring_cliques__Colouring_countThat_1__anyList.f] at H
  refine enterM (n := 51) hp Try.func104 rfl rfl (Nat.le_of_ble_eq_true rfl) fun a w ht hm => ?_
  induction k using Nat.strongRecOn with
  | _ k ih =>
  refine wp_seq ?_
  refine wpr ?_
  refine wpl rfl rfl ht (ev_assign ht rfl rfl) ?_
  intro a ht
  refine wpList_nil ?_
  refine then_normal ?_
  refine wp_seq ?_
  refine wp_seq ?_
  refine wpr ?_
  refine wpl rfl rfl ht (ev_move ht rfl rfl) ?_
  intro a ht
  refine wpl rfl rfl ht (ev_move ht rfl rfl) ?_
  intro a ht
  obtain ⟨t1, et1, H⟩ := bind_get H
  have hcall := impl_Colouring_countThat_1__anyList.calls _ _ A c2 m b2 b3 b4 list with_ with_2 _ ((fun (hq : Ms _ _ _ ([.blk b2 2 [.int .i64 with_], .blk b3 62 [.func (.func 63) #[] #[]], .blk b4 2 [.int .i64 with_2]] ++ [.blk b 28 (Col.cells x)]) _ _) => hq.lend (φp := [IntsAt A c2 m list]) (allRO_cons (hq.lendFact 0 rfl) (allRO_nil))) (hm.pick (own' := [.blk b2 2 [.int .i64 with_], .blk b3 62 [.func (.func 63) #[] #[]], .blk b4 2 [.int .i64 with_2]] ++ [.blk b 28 (Col.cells x)]) [1, 2, 3, 0] rfl (by decide))) et1
  refine wpl_call _ rfl rfl ht rfl rfl rfl rfl can_105 hcall ?_
  clear hcall
  rintro _ w ⟨rfl, hpost⟩ a ht
  replace hm := (hm.pick (own' := [.blk b2 2 [.int .i64 with_], .blk b3 62 [.func (.func 63) #[] #[]], .blk b4 2 [.int .i64 with_2]] ++ [.blk b 28 (Col.cells x)]) [1, 2, 3, 0] rfl (by decide)).backL hpost
  clear hpost
  refine wpl rfl rfl ht (ev_not ht rfl rfl) ?_
  intro a ht
  refine wpList_nil ?_
  refine then_normal ?_
  by_cases h2 : t1.1 = true
  · replace H := ite_yes h2 H
    refine wpc_no ht rfl (not_t h2) ?_
    refine wp_skip ?_
    refine then_normal ?_
    refine wp_seq ?_
    refine wpr ?_
    refine wpl rfl rfl ht (ev_assign ht rfl rfl) ?_
    intro a ht
    refine wpList_nil ?_
    refine then_normal ?_
    refine wp_seq ?_
    refine wp_seq ?_
    refine wpr ?_
    refine wpl rfl rfl ht (ev_move ht rfl rfl) ?_
    intro a ht
    refine wpl rfl rfl ht (ev_len_of ht rfl rfl und_25 (hm.fact (φ := IntsAt A c2 m list) 0 rfl)) ?_
    intro a ht
    refine wpl rfl rfl ht (ev_cmp ht rfl rfl rfl rfl) ?_
    intro a ht
    refine wpList_nil ?_
    refine then_normal ?_
    by_cases h3 : (list.length : Int) > 0
    · replace H := ite_yes h3 H
      refine wpc_yes ht rfl (decide_eq_true h3) ?_
      refine wpr ?_
      refine wpl rfl rfl ht (ev_move ht rfl rfl) ?_
      intro a ht
      refine wpl rfl rfl ht (ev_move ht rfl rfl) ?_
      intro a ht
      refine wpl rfl rfl ht (ev_len_of ht rfl rfl und_25 (hm.fact (φ := IntsAt A c2 m list) 0 rfl)) ?_
      intro a ht
      refine wpl rfl rfl ht (ev_arith ht rfl rfl rfl rfl) ?_
      intro a ht
      obtain ⟨t4, et4, H⟩ := bind_get H
      refine wpl rfl rfl ht (ev_index_ints ht rfl rfl rfl so_25 (hm.fact (φ := IntsAt A c2 m list) 0 rfl) et4) ?_
      intro a ht
      refine wpl rfl rfl ht (ev_load ht rfl rfl sc_2 (RowAt.cell (hm.fact (φ := IntsAt A c2 m list) 0 rfl) (ints_get et4) rfl)) ?_
      intro a ht
      refine wpl rfl rfl ht (ev_arith ht rfl rfl rfl rfl) ?_
      intro a ht
      refine wpl rfl rfl ht (ev_assign ht rfl rfl) ?_
      intro a ht
      refine wpList_nil ?_
      refine then_normal ?_
      refine wp_seq ?_
      refine wp_seq ?_
      refine wpr ?_
      refine wpl rfl rfl ht (ev_move ht rfl rfl) ?_
      intro a ht
      refine wpl rfl rfl ht (ev_assign ht rfl rfl) ?_
      intro a ht
      refine wpList_nil ?_
      refine then_normal ?_
      refine wp_block ?_
      refine wpLoop (fun q a w => ∃ (xs0_1 : Int) (xs0_2 : Int), impl_Colouring_cliques__Colouring_countThat_1__anyList.l0 q x c list with_ xs0_1 xs0_2 = some r ∧ q ≤ k ∧ Tm 51 [(0, .pointer (some ⟨b, 0, none⟩)), (1, .int .i64 c), (2, .slice A m c2), (3, .func (.func 105) [].toArray [.pointer (some ⟨b2, 0, none⟩), .pointer (some ⟨b3, 0, none⟩), .pointer (some ⟨b4, 0, none⟩)].toArray), (8, .bool false), (10, .int .i64 xs0_2)] a ∧ Ms X (fps [.blk b 28 (Col.cells x), .blk b2 2 [.int .i64 with_], .blk b3 62 [.func (.func 63) #[] #[]], .blk b4 2 [.int .i64 with_2]]) w0 [.blk b2 2 [.int .i64 with_], .blk b3 62 [.func (.func 63) #[] #[]], .blk b4 2 [.int .i64 xs0_1], .blk b 28 (Col.cells x)] [IntsAt A c2 m list] w) (k0 := k) ⟨t1.2, (w64 (t4 + 1)), H, Nat.le_refl _, ht.sub ⟨rfl, rfl, rfl, rfl, rfl, rfl, trivial⟩, (hm.pick [0, 1, 2, 3] rfl (by decide)).pickφ [0] rfl⟩ ?_
      clear H ht hm
      intro q5 a w hJ
      obtain ⟨xs0_1, xs0_2, H, hqq5, ht, hm⟩ := hJ
      cases q5 with
      | zero => cases H
      | succ q5 =>
      rw [impl_Colouring_cliques__Colouring_countThat_1__anyList.l0] at H
      refine wp_seq ?_
      refine wp_seq ?_
      refine wpr ?_
      refine wpl rfl rfl ht (ev_move ht rfl rfl) ?_
      intro a ht
      refine wpl rfl rfl ht (ev_move ht rfl rfl) ?_
      intro a ht
      refine wpl rfl rfl ht (ev_nilCheck ht rfl rfl) ?_
      intro a ht
      refine wpl rfl rfl ht (ev_fieldAddr ht rfl rfl fo_28_0) ?_
      intro a ht
      refine wpl rfl rfl ht (ev_load ht rfl rfl sc_2 (hm.blk_cell 3 rfl rfl)) ?_
      intro a ht
      refine wpl rfl rfl ht (ev_cmp ht rfl rfl rfl rfl) ?_
      intro a ht
      refine wpList_nil ?_
      refine then_normal ?_
      by_cases h6 : xs0_2 < x.p
      · replace H := ite_yes h6 H
        refine wpc_yes ht rfl (decide_eq_true h6) ?_
        refine wp_skip ?_
        refine then_normal ?_
        refine wp_seq ?_
        refine wp_block ?_
        refine wp_seq ?_
        refine wpr ?_
        refine wpl rfl rfl ht (ev_move ht rfl rfl) ?_
        intro a ht
        refine wpl rfl rfl ht (ev_move ht rfl rfl) ?_
        intro a ht
        refine wpl rfl rfl ht (ev_move ht rfl rfl) ?_
        intro a ht
        refine wpl rfl rfl ht (ev_move ht rfl rfl) ?_
        intro a ht
        obtain ⟨t7, et7, H⟩ := bind_get H
        have hcall := impl_Colouring_goesWith.calls q5 _ _ b A c2 m x c list xs0_2 _ ((fun (hq : Ms _ _ _ ([.blk b 28 (Col.cells x)] ++ [.blk b2 2 [.int .i64 with_], .blk b3 62 [.func (.func 63) #[] #[]], .blk b4 2 [.int .i64 xs0_1]]) _ _) => hq.lend (φp := [IntsAt A c2 m list]) (allRO_cons (hq.lendFact 0 rfl) (allRO_nil))) (hm.pick (own' := [.blk b 28 (Col.cells x)] ++ [.blk b2 2 [.int .i64 with_], .blk b3 62 [.func (.func 63) #[] #[]], .blk b4 2 [.int .i64 xs0_1]]) [3, 0, 1, 2] rfl (by decide))) et7
        refine wpl_call _ rfl rfl ht rfl rfl rfl rfl can_98 hcall ?_
        clear hcall
        rintro _ w ⟨rfl, hpost⟩ a ht
        replace hm := (hm.pick (own' := [.blk b 28 (Col.cells x)] ++ [.blk b2 2 [.int .i64 with_], .blk b3 62 [.func (.func 63) #[] #[]], .blk b4 2 [.int .i64 xs0_1]]) [3, 0, 1, 2] rfl (by decide)).backL hpost
        clear hpost
        refine wpl rfl rfl ht (ev_move ht rfl rfl) ?_
        intro a ht
        by_cases h8 : t7 = true
        · replace H := ite_yes h8 H
          refine wpl_yes rfl ht rfl (h8) ?_
          refine wpl rfl rfl ht (ev_move ht rfl rfl) ?_
          intro a ht
          refine wpl_yes rfl ht rfl (h8) ?_
          refine wpl rfl rfl ht (ev_move ht rfl rfl) ?_
          intro a ht
          refine wpl_yes rfl ht rfl (h8) ?_
          refine wpl rfl rfl ht (ev_move ht rfl rfl) ?_
          intro a ht
          refine wpl_yes rfl ht rfl (h8) ?_
          obtain ⟨t9, et9, H⟩ := bind_get H
          have hcall := slices_Clone_int64_int64.calls _ _ A c2 m list _ ((fun (hq : Ms _ _ _ ([] ++ [.blk b 28 (Col.cells x), .blk b2 2 [.int .i64 with_], .blk b3 62 [.func (.func 63) #[] #[]], .blk b4 2 [.int .i64 xs0_1]]) _ _) => hq.lend (φp := [IntsAt A c2 m list]) (allRO_cons (hq.lendFact 0 rfl) (allRO_nil))) (hm.pick (own' := [] ++ [.blk b 28 (Col.cells x), .blk b2 2 [.int .i64 with_], .blk b3 62 [.func (.func 63) #[] #[]], .blk b4 2 [.int .i64 xs0_1]]) [0, 1, 2, 3] rfl (by decide))) et9
          refine wpl_call _ rfl rfl ht rfl rfl rfl rfl can_123 hcall ?_
          clear hcall
          rintro _ w ⟨A10, c11, m12, rfl, hpost⟩ a ht
          replace hm := (hm.pick (own' := [] ++ [.blk b 28 (Col.cells x), .blk b2 2 [.int .i64 with_], .blk b3 62 [.func (.func 63) #[] #[]], .blk b4 2 [.int .i64 xs0_1]]) [0, 1, 2, 3] rfl (by decide)).backL hpost
          clear hpost
          refine wpl_yes rfl ht rfl (h8) ?_
          refine wpl rfl rfl ht (ev_move ht rfl rfl) ?_
          intro a ht
          refine wpl_yes rfl ht rfl (h8) ?_
          refine wpl_build_ints (l := [xs0_2]) rfl rfl ht hm rfl und_25 zo_2 sz1_2 (by decide) rfl rfl rfl ?_
          intro A13 a ht w hm
          refine wpl_yes rfl ht rfl (h8) ?_
          obtain ⟨l17, el17, H⟩ := bind_get H
          refine wpl_push (r := l17) 1 0 rfl rfl ht hm rfl ap_25 rfl rfl rfl rfl el17 ?_
          intro A14 c15 m16 a ht w hm
          refine wpl_yes rfl ht rfl (h8) ?_
          refine wpl rfl rfl ht (ev_move ht rfl rfl) ?_
          intro a ht
          refine wpl_yes rfl ht rfl (h8) ?_
          obtain ⟨t18, et18, H⟩ := bind_get H
          have hcall := ih q5 (by omega) _ _ b A14 c15 m16 b2 b3 b4 x c l17 with_ xs0_1 _ ((fun (hq : Ms _ _ _ ([.blk b 28 (Col.cells x), .blk b2 2 [.int .i64 with_], .blk b3 62 [.func (.func 63) #[] #[]], .blk b4 2 [.int .i64 xs0_1]] ++ [.vec A13 1 2 1 1 (ints ([xs0_2])), .vec A14 c15 2 1 m16 (ints l17)]) _ _) => hq.lend (φp := [IntsAt A14 c15 m16 l17]) (allRO_cons (hq.lendVec 1 rfl) (allRO_nil))) (hm.pick (own' := [.blk b 28 (Col.cells x), .blk b2 2 [.int .i64 with_], .blk b3 62 [.func (.func 63) #[] #[]], .blk b4 2 [.int .i64 xs0_1]] ++ [.vec A13 1 2 1 1 (ints ([xs0_2])), .vec A14 c15 2 1 m16 (ints l17)]) [2, 3, 4, 5, 0, 1] rfl (by decide))) et18
          refine wpl_call _ rfl rfl ht rfl rfl rfl rfl can_104 hcall ?_
          clear hcall
          rintro _ w ⟨rfl, hpost⟩ a ht
          replace hm := (hm.pick (own' := [.blk b 28 (Col.cells x), .blk b2 2 [.int .i64 with_], .blk b3 62 [.func (.func 63) #[] #[]], .blk b4 2 [.int .i64 xs0_1]] ++ [.vec A13 1 2 1 1 (ints ([xs0_2])), .vec A14 c15 2 1 m16 (ints l17)]) [2, 3, 4, 5, 0, 1] rfl (by decide)).backL hpost
          clear hpost
          refine wpl_yes rfl ht rfl (h8) ?_
          refine wpl rfl rfl ht (ev_not ht rfl rfl) ?_
          intro a ht
          refine wpl rfl rfl ht (ev_pick_yes ht rfl rfl h8 rfl) ?_
          intro a ht
          refine wpList_nil ?_
          refine then_normal ?_
          by_cases h19 : t18.1 = true
          · replace H := ite_yes h19 H
            refine wpc_no ht rfl (not_t h19) ?_
            refine wp_skip ?_
            refine blk_normal ?_
            refine then_normal ?_
            refine wpr ?_
            refine wpl rfl rfl ht (ev_move ht rfl rfl) ?_
            intro a ht
            refine wpl rfl rfl ht (ev_arith ht rfl rfl rfl rfl) ?_
            intro a ht
            refine wpl rfl rfl ht (ev_assign ht rfl rfl) ?_
            intro a ht
            refine wpList_nil ?_
            exact then_normal ⟨q5, by omega, t18.2, (w64 (xs0_2 + 1)), H, by omega, ht.sub ⟨rfl, rfl, rfl, rfl, rfl, rfl, trivial⟩, (hm.pick [1, 2, 3, 0] rfl (by decide)).pickφ [0] rfl⟩
          · replace H := ite_no h19 H
            refine wpc_yes ht rfl (not_f (Bool.eq_false_iff.mpr h19)) ?_
            refine wp_seq ?_
            refine wpr ?_
            refine wpl rfl rfl ht (ev_assign ht rfl rfl) ?_
            intro a ht
            refine wpList_nil ?_
            refine then_normal ?_
            refine wp_ret ?_
            refine blk_ret ?_
            refine then_ret ?_
            refine then_ret ?_
            refine blk_ret ?_
            refine then_ret ?_
            have hres := ht.res (P := Try.prog) (w := w) (rs := [.tmp 8]) (vs := [.bool false]) (.tmp rfl .nil)
            obtain rfl := Option.some.inj H
            exact leave ht rfl hres ⟨rfl, ((hm.pick [0, 1, 2, 3] rfl (by decide)).pickφ [] rfl).post fun _ h => h⟩
        · replace H := ite_no h8 H
          refine wpl_no rfl rfl ht rfl (by rw [(Bool.eq_false_iff.mpr h8)]; decide) ?_
          intro a ht
          refine wpl_no rfl rfl ht rfl (by rw [(Bool.eq_false_iff.mpr h8)]; decide) ?_
          intro a ht
          refine wpl_no rfl rfl ht rfl (by rw [(Bool.eq_false_iff.mpr h8)]; decide) ?_
          intro a ht
          refine wpl_no rfl rfl ht rfl (by rw [(Bool.eq_false_iff.mpr h8)]; decide) ?_
          intro a ht
          refine wpl_no rfl rfl ht rfl (by rw [(Bool.eq_false_iff.mpr h8)]; decide) ?_
          intro a ht
          refine wpl_no rfl rfl ht rfl (by rw [(Bool.eq_false_iff.mpr h8)]; decide) ?_
          intro a ht
          refine wpl_no rfl rfl ht rfl (by rw [(Bool.eq_false_iff.mpr h8)]; decide) ?_
          intro a ht
          refine wpl_no rfl rfl ht rfl (by rw [(Bool.eq_false_iff.mpr h8)]; decide) ?_
          intro a ht
          refine wpl_no rfl rfl ht rfl (by rw [(Bool.eq_false_iff.mpr h8)]; decide) ?_
          intro a ht
          refine wpl_no rfl rfl ht rfl (by rw [(Bool.eq_false_iff.mpr h8)]; decide) ?_
          intro a ht
          refine wpl rfl rfl ht (ev_pick_no ht rfl rfl (Bool.eq_false_iff.mpr h8) rfl) ?_
          intro a ht
          refine wpList_nil ?_
          refine then_normal ?_
          refine wpc_no ht rfl rfl ?_
          refine wp_skip ?_
          refine blk_normal ?_
          refine then_normal ?_
          refine wpr ?_
          refine wpl rfl rfl ht (ev_move ht rfl rfl) ?_
          intro a ht
          refine wpl rfl rfl ht (ev_arith ht rfl rfl rfl rfl) ?_
          intro a ht
          refine wpl rfl rfl ht (ev_assign ht rfl rfl) ?_
          intro a ht
          refine wpList_nil ?_
          exact then_normal ⟨q5, by omega, xs0_1, (w64 (xs0_2 + 1)), H, by omega, ht.sub ⟨rfl, rfl, rfl, rfl, rfl, rfl, trivial⟩, (hm.pick [1, 2, 3, 0] rfl (by decide)).pickφ [0] rfl⟩
      · replace H := ite_no h6 H
        refine wpc_no ht rfl (decide_eq_false h6) ?_
        refine wp_exit ?_
        refine then_exit ?_
        refine then_exit ?_
        refine blk_hit ?_
        refine then_normal ?_
        refine wp_seq ?_
        refine wpr ?_
        refine wpl rfl rfl ht (ev_assign ht rfl rfl) ?_
        intro a ht
        refine wpList_nil ?_
        refine then_normal ?_
        refine wp_ret ?_
        have hres := ht.res (P := Try.prog) (w := w) (rs := [.tmp 8]) (vs := [.bool true]) (.tmp rfl .nil)
        obtain rfl := Option.some.inj H
        exact leave ht rfl hres ⟨rfl, ((hm.pick [3, 0, 1, 2] rfl (by decide)).pickφ [] rfl).post fun _ h => h⟩
    · replace H := ite_no h3 H
      refine wpc_no ht rfl (decide_eq_false h3) ?_
      refine wp_skip ?_
      refine then_normal ?_
      refine wp_seq ?_
      refine wp_seq ?_
      refine wpr ?_
      refine wpl rfl rfl ht (ev_move ht rfl rfl) ?_
      intro a ht
      refine wpl rfl rfl ht (ev_assign ht rfl rfl) ?_
      intro a ht
      refine wpList_nil ?_
      refine then_normal ?_
      refine wp_block ?_
      refine wpLoop (fun q a w => ∃ (xs1_1 : Int) (xs1_2 : Int), impl_Colouring_cliques__Colouring_countThat_1__anyList.l1 q x c list with_ xs1_1 xs1_2 = some r ∧ q ≤ k ∧ Tm 51 [(0, .pointer (some ⟨b, 0, none⟩)), (1, .int .i64 c), (2, .slice A m c2), (3, .func (.func 105) [].toArray [.pointer (some ⟨b2, 0, none⟩), .pointer (some ⟨b3, 0, none⟩), .pointer (some ⟨b4, 0, none⟩)].toArray), (8, .bool false), (10, .int .i64 xs1_2)] a ∧ Ms X (fps [.blk b 28 (Col.cells x), .blk b2 2 [.int .i64 with_], .blk b3 62 [.func (.func 63) #[] #[]], .blk b4 2 [.int .i64 with_2]]) w0 [.blk b2 2 [.int .i64 with_], .blk b3 62 [.func (.func 63) #[] #[]], .blk b4 2 [.int .i64 xs1_1], .blk b 28 (Col.cells x)] [IntsAt A c2 m list] w) (k0 := k) ⟨t1.2, 0, H, Nat.le_refl _, ht.sub ⟨rfl, rfl, rfl, rfl, rfl, rfl, trivial⟩, (hm.pick [0, 1, 2, 3] rfl (by decide)).pickφ [0] rfl⟩ ?_
      clear H ht hm
      intro q20 a w hJ
      obtain ⟨xs1_1, xs1_2, H, hqq20, ht, hm⟩ := hJ
      cases q20 with
      | zero => cases H
      | succ q20 =>
      rw [impl_Colouring_cliques__Colouring_countThat_1__anyList.l1] at H
      refine wp_seq ?_
      refine wp_seq ?_
      refine wpr ?_
      refine wpl rfl rfl ht (ev_move ht rfl rfl) ?_
      intro a ht
      refine wpl rfl rfl ht (ev_move ht rfl rfl) ?_
      intro a ht
      refine wpl rfl rfl ht (ev_nilCheck ht rfl rfl) ?_
      intro a ht
      refine wpl rfl rfl ht (ev_fieldAddr ht rfl rfl fo_28_0) ?_
      intro a ht
      refine wpl rfl rfl ht (ev_load ht rfl rfl sc_2 (hm.blk_cell 3 rfl rfl)) ?_
      intro a ht
      refine wpl rfl rfl ht (ev_cmp ht rfl rfl rfl rfl) ?_
      intro a ht
      refine wpList_nil ?_
      refine then_normal ?_
      by_cases h21 : xs1_2 < x.p
      · replace H := ite_yes h21 H
        refine wpc_yes ht rfl (decide_eq_true h21) ?_
        refine wp_skip ?_
        refine then_normal ?_
        refine wp_seq ?_
        refine wp_block ?_
        refine wp_seq ?_
        refine wpr ?_
        refine wpl rfl rfl ht (ev_move ht rfl rfl) ?_
        intro a ht
        refine wpl rfl rfl ht (ev_move ht rfl rfl) ?_
        intro a ht
        refine wpl rfl rfl ht (ev_move ht rfl rfl) ?_
        intro a ht
        refine wpl rfl rfl ht (ev_move ht rfl rfl) ?_
        intro a ht
        obtain ⟨t22, et22, H⟩ := bind_get H
        have hcall := impl_Colouring_goesWith.calls q20 _ _ b A c2 m x c list xs1_2 _ ((fun (hq : Ms _ _ _ ([.blk b 28 (Col.cells x)] ++ [.blk b2 2 [.int .i64 with_], .blk b3 62 [.func (.func 63) #[] #[]], .blk b4 2 [.int .i64 xs1_1]]) _ _) => hq.lend (φp := [IntsAt A c2 m list]) (allRO_cons (hq.lendFact 0 rfl) (allRO_nil))) (hm.pick (own' := [.blk b 28 (Col.cells x)] ++ [.blk b2 2 [.int .i64 with_], .blk b3 62 [.func (.func 63) #[] #[]], .blk b4 2 [.int .i64 xs1_1]]) [3, 0, 1, 2] rfl (by decide))) et22
        refine wpl_call _ rfl rfl ht rfl rfl rfl rfl can_98 hcall ?_
        clear hcall
        rintro _ w ⟨rfl, hpost⟩ a ht
        replace hm := (hm.pick (own' := [.blk b 28 (Col.cells x)] ++ [.blk b2 2 [.int .i64 with_], .blk b3 62 [.func (.func 63) #[] #[]], .blk b4 2 [.int .i64 xs1_1]]) [3, 0, 1, 2] rfl (by decide)).backL hpost
        clear hpost
        refine wpl rfl rfl ht (ev_move ht rfl rfl) ?_
        intro a ht
        by_cases h23 : t22 = true
        · replace H := ite_yes h23 H
          refine wpl_yes rfl ht rfl (h23) ?_
          refine wpl rfl rfl ht (ev_move ht rfl rfl) ?_
          intro a ht
          refine wpl_yes rfl ht rfl (h23) ?_
          refine wpl rfl rfl ht (ev_move ht rfl rfl) ?_
          intro a ht
          refine wpl_yes rfl ht rfl (h23) ?_
          refine wpl rfl rfl ht (ev_move ht rfl rfl) ?_
          intro a ht
          refine wpl_yes rfl ht rfl (h23) ?_
          obtain ⟨t24, et24, H⟩ := bind_get H
          have hcall := slices_Clone_int64_int64.calls _ _ A c2 m list _ ((fun (hq : Ms _ _ _ ([] ++ [.blk b 28 (Col.cells x), .blk b2 2 [.int .i64 with_], .blk b3 62 [.func (.func 63) #[] #[]], .blk b4 2 [.int .i64 xs1_1]]) _ _) => hq.lend (φp := [IntsAt A c2 m list]) (allRO_cons (hq.lendFact 0 rfl) (allRO_nil))) (hm.pick (own' := [] ++ [.blk b 28 (Col.cells x), .blk b2 2 [.int .i64 with_], .blk b3 62 [.func (.func 63) #[] #[]], .blk b4 2 [.int .i64 xs1_1]]) [0, 1, 2, 3] rfl (by decide))) et24
          refine wpl_call _ rfl rfl ht rfl rfl rfl rfl can_123 hcall ?_
          clear hcall
          rintro _ w ⟨A25, c26, m27, rfl, hpost⟩ a ht
          replace hm := (hm.pick (own' := [] ++ [.blk b 28 (Col.cells x), .blk b2 2 [.int .i64 with_], .blk b3 62 [.func (.func 63) #[] #[]], .blk b4 2 [.int .i64 xs1_1]]) [0, 1, 2, 3] rfl (by decide)).backL hpost
          clear hpost
          refine wpl_yes rfl ht rfl (h23) ?_
          refine wpl rfl rfl ht (ev_move ht rfl rfl) ?_
          intro a ht
          refine wpl_yes rfl ht rfl (h23) ?_
          refine wpl_build_ints (l := [xs1_2]) rfl rfl ht hm rfl und_25 zo_2 sz1_2 (by decide) rfl rfl rfl ?_
          intro A28 a ht w hm
          refine wpl_yes rfl ht rfl (h23) ?_
          obtain ⟨l32, el32, H⟩ := bind_get H
          refine wpl_push (r := l32) 1 0 rfl rfl ht hm rfl ap_25 rfl rfl rfl rfl el32 ?_
          intro A29 c30 m31 a ht w hm
          refine wpl_yes rfl ht rfl (h23) ?_
          refine wpl rfl rfl ht (ev_move ht rfl rfl) ?_
          intro a ht
          refine wpl_yes rfl ht rfl (h23) ?_
          obtain ⟨t33, et33, H⟩ := bind_get H
          have hcall := ih q20 (by omega) _ _ b A29 c30 m31 b2 b3 b4 x c l32 with_ xs1_1 _ ((fun (hq : Ms _ _ _ ([.blk b 28 (Col.cells x), .blk b2 2 [.int .i64 with_], .blk b3 62 [.func (.func 63) #[] #[]], .blk b4 2 [.int .i64 xs1_1]] ++ [.vec A28 1 2 1 1 (ints ([xs1_2])), .vec A29 c30 2 1 m31 (ints l32)]) _ _) => hq.lend (φp := [IntsAt A29 c30 m31 l32]) (allRO_cons (hq.lendVec 1 rfl) (allRO_nil))) (hm.pick (own' := [.blk b 28 (Col.cells x), .blk b2 2 [.int .i64 with_], .blk b3 62 [.func (.func 63) #[] #[]], .blk b4 2 [.int .i64 xs1_1]] ++ [.vec A28 1 2 1 1 (ints ([xs1_2])), .vec A29 c30 2 1 m31 (ints l32)]) [2, 3, 4, 5, 0, 1] rfl (by decide))) et33
          refine wpl_call _ rfl rfl ht rfl rfl rfl rfl can_104 hcall ?_
          clear hcall
          rintro _ w ⟨rfl, hpost⟩ a ht
          replace hm := (hm.pick (own' := [.blk b 28 (Col.cells x), .blk b2 2 [.int .i64 with_], .blk b3 62 [.func (.func 63) #[] #[]], .blk b4 2 [.int .i64 xs1_1]] ++ [.vec A28 1 2 1 1 (ints ([xs1_2])), .vec A29 c30 2 1 m31 (ints l32)]) [2, 3, 4, 5, 0, 1] rfl (by decide)).backL hpost
          clear hpost
          refine wpl_yes rfl ht rfl (h23) ?_
          refine wpl rfl rfl ht (ev_not ht rfl rfl) ?_
          intro a ht
          refine wpl rfl rfl ht (ev_pick_yes ht rfl rfl h23 rfl) ?_
          intro a ht
          refine wpList_nil ?_
          refine then_normal ?_
          by_cases h34 : t33.1 = true
          · replace H := ite_yes h34 H
            refine wpc_no ht rfl (not_t h34) ?_
            refine wp_skip ?_
            refine blk_normal ?_
            refine then_normal ?_
            refine wpr ?_
            refine wpl rfl rfl ht (ev_move ht rfl rfl) ?_
            intro a ht
            refine wpl rfl rfl ht (ev_arith ht rfl rfl rfl rfl) ?_
            intro a ht
            refine wpl rfl rfl ht (ev_assign ht rfl rfl) ?_
            intro a ht
            refine wpList_nil ?_
            exact then_normal ⟨q20, by omega, t33.2, (w64 (xs1_2 + 1)), H, by omega, ht.sub ⟨rfl, rfl, rfl, rfl, rfl, rfl, trivial⟩, (hm.pick [1, 2, 3, 0] rfl (by decide)).pickφ [0] rfl⟩
          · replace H := ite_no h34 H
            refine wpc_yes ht rfl (not_f (Bool.eq_false_iff.mpr h34)) ?_
            refine wp_seq ?_
            refine wpr ?_
            refine wpl rfl rfl ht (ev_assign ht rfl rfl) ?_
            intro a ht
            refine wpList_nil ?_
            refine then_normal ?_
            refine wp_ret ?_
            refine blk_ret ?_
            refine then_ret ?_
            refine then_ret ?_
            refine blk_ret ?_
            refine then_ret ?_
            have hres := ht.res (P := Try.prog) (w := w) (rs := [.tmp 8]) (vs := [.bool false]) (.tmp rfl .nil)
            obtain rfl := Option.some.inj H
            exact leave ht rfl hres ⟨rfl, ((hm.pick [0, 1, 2, 3] rfl (by decide)).pickφ [] rfl).post fun _ h => h⟩
        · replace H := ite_no h23 H
          refine wpl_no rfl rfl ht rfl (by rw [(Bool.eq_false_iff.mpr h23)]; decide) ?_
          intro a ht
          refine wpl_no rfl rfl ht rfl (by rw [(Bool.eq_false_iff.mpr h23)]; decide) ?_
          intro a ht
          refine wpl_no rfl rfl ht rfl (by rw [(Bool.eq_false_iff.mpr h23)]; decide) ?_
          intro a ht
          refine wpl_no rfl rfl ht rfl (by rw [(Bool.eq_false_iff.mpr h23)]; decide) ?_
          intro a ht
          refine wpl_no rfl rfl ht rfl (by rw [(Bool.eq_false_iff.mpr h23)]; decide) ?_
          intro a ht
          refine wpl_no rfl rfl ht rfl (by rw [(Bool.eq_false_iff.mpr h23)]; decide) ?_
          intro a ht
          refine wpl_no rfl rfl ht rfl (by rw [(Bool.eq_false_iff.mpr h23)]; decide) ?_
          intro a ht
          refine wpl_no rfl rfl ht rfl (by rw [(Bool.eq_false_iff.mpr h23)]; decide) ?_
          intro a ht
          refine wpl_no rfl rfl ht rfl (by rw [(Bool.eq_false_iff.mpr h23)]; decide) ?_
          intro a ht
          refine wpl_no rfl rfl ht rfl (by rw [(Bool.eq_false_iff.mpr h23)]; decide) ?_
          intro a ht
          refine wpl rfl rfl ht (ev_pick_no ht rfl rfl (Bool.eq_false_iff.mpr h23) rfl) ?_
          intro a ht
          refine wpList_nil ?_
          refine then_normal ?_
          refine wpc_no ht rfl rfl ?_
          refine wp_skip ?_
          refine blk_normal ?_
          refine then_normal ?_
          refine wpr ?_
          refine wpl rfl rfl ht (ev_move ht rfl rfl) ?_
          intro a ht
          refine wpl rfl rfl ht (ev_arith ht rfl rfl rfl rfl) ?_
          intro a ht
          refine wpl rfl rfl ht (ev_assign ht rfl rfl) ?_
          intro a ht
          refine wpList_nil ?_
          exact then_normal ⟨q20, by omega, xs1_1, (w64 (xs1_2 + 1)), H, by omega, ht.sub ⟨rfl, rfl, rfl, rfl, rfl, rfl, trivial⟩, (hm.pick [1, 2, 3, 0] rfl (by decide)).pickφ [0] rfl⟩
      · replace H := ite_no h21 H
        refine wpc_no ht rfl (decide_eq_false h21) ?_
        refine wp_exit ?_
        refine then_exit ?_
        refine then_exit ?_
        refine blk_hit ?_
        refine then_normal ?_
        refine wp_seq ?_
        refine wpr ?_
        refine wpl rfl rfl ht (ev_assign ht rfl rfl) ?_
        intro a ht
        refine wpList_nil ?_
        refine then_normal ?_
        refine wp_ret ?_
        have hres := ht.res (P := Try.prog) (w := w) (rs := [.tmp 8]) (vs := [.bool true]) (.tmp rfl .nil)
        obtain rfl := Option.some.inj H
        exact leave ht rfl hres ⟨rfl, ((hm.pick [3, 0, 1, 2] rfl (by decide)).pickφ [] rfl).post fun _ h => h⟩
  · replace H := ite_no h2 H
    refine wpc_yes ht rfl (not_f (Bool.eq_false_iff.mpr h2)) ?_
    refine wp_seq ?_
    refine wpr ?_
    refine wpl rfl rfl ht (ev_assign ht rfl rfl) ?_
    intro a ht
    refine wpList_nil ?_
    refine then_normal ?_
    refine wp_ret ?_
    refine then_ret ?_
    have hres := ht.res (P := Try.prog) (w := w) (rs := [.tmp 8]) (vs := [.bool false]) (.tmp rfl .nil)
    obtain rfl := Option.some.inj H
    exact leave ht rfl hres ⟨rfl, ((hm.pick [3, 0, 1, 2] rfl (by decide)).pickφ [] rfl).post fun _ h => h⟩

/-! ### impl_Colouring_countThat__anyList: function 62 ((*loop.example/g01362/impl.Colouring).countThat) -/
def impl_Colouring_countThat__anyList.f (k : Nat) (x : Col) (c : Int) (m : Int) : Option (Int) := (impl_Colouring_cliques__Colouring_countThat_1__anyList.f k x c ([]) m 0).bind fun t5 => some t5.2
set_option maxRecDepth 100000 in
set_option maxHeartbeats 1000000 in
theorem impl_Colouring_countThat__anyList.calls (k : Nat) (X : List Nat) (w0 : World) (b : Nat) (x : Col) (c : Int) (m : Int) (r : Int)
    (hp : Pre X w0 [.blk b 28 (Col.cells x)] []) (H : impl_Colouring_countThat__anyList.f k x c m = some r) :
    Calls Try.prog 62 [.pointer (some ⟨b, 0, none⟩), .int .i64 c, .int .i64 m, .func (.func 63) #[] #[]].toArray w0 (Ret fun v w => v = .int .i64 r ∧ Post X (fps [.blk b 28 (Col.cells x)]) w0 [.blk b 28 (Col.cells x)] [] w) := by
  unfold impl_Colouring_countThat__anyList.f at H
  refine enterM (n := 15) hp Try.func62 rfl rfl (Nat.le_of_ble_eq_true rfl) fun a w ht hm => ?_
  refine wp_seq ?_
  refine wpr ?_
  refine wpl_box rfl rfl ht hm rfl rfl rfl ?_
  intro b1 a ht w hm
  refine wpl_box rfl rfl ht hm rfl rfl rfl ?_
  intro b2 a ht w hm
  refine wpl rfl rfl ht (ev_assign ht rfl rfl) ?_
  intro a ht
  refine wpList_nil ?_
  refine then_normal ?_
  refine wp_seq ?_
  refine wpr ?_
  refine wpl_alloc rfl rfl ht hm rfl zo_2 ?_
  intro b3 a ht w hm
  refine wpl_store_blk 0 rfl rfl ht hm rfl rfl rfl sz1_2 rfl rfl rfl ?_
  intro a ht w hm
  refine wpList_nil ?_
  refine then_normal ?_
  refine wp_seq ?_
  refine wpr ?_
  refine wpl rfl rfl ht (ev_move ht rfl rfl) ?_
  intro a ht
  refine wpl rfl rfl ht (ev_move ht rfl rfl) ?_
  intro a ht
  refine wpl rfl rfl ht (ev_makeFunc ht rfl rfl rfl) ?_
  intro a ht
  replace hm : Ms _ _ _ _ (IntsAt none 0 0 ([] : List Int) :: _) w := hm.nilRow none 1
  obtain ⟨t5, et5, H⟩ := bind_get H
  have hcall := impl_Colouring_cliques__Colouring_countThat_1__anyList.calls k _ _ b none 0 0 b1 b2 b3 x c ([]) m 0 _ ((fun (hq : Ms _ _ _ ([.blk b 28 (Col.cells x), .blk b1 2 [.int .i64 m], .blk b2 62 [.func (.func 63) #[] #[]], .blk b3 2 [.int .i64 0]] ++ []) _ _) => hq.lend (φp := [IntsAt none 0 0 ([] : List Int)]) (allRO_cons (hq.lendFact 0 rfl) (allRO_nil))) (hm.pick (own' := [.blk b 28 (Col.cells x), .blk b1 2 [.int .i64 m], .blk b2 62 [.func (.func 63) #[] #[]], .blk b3 2 [.int .i64 0]] ++ []) [3, 2, 1, 0] rfl (by decide))) et5
  refine wpl_call _ rfl rfl ht rfl rfl rfl rfl can_104 hcall ?_
  clear hcall
  rintro _ w ⟨rfl, hpost⟩ a ht
  replace hm := (hm.pick (own' := [.blk b 28 (Col.cells x), .blk b1 2 [.int .i64 m], .blk b2 62 [.func (.func 63) #[] #[]], .blk b3 2 [.int .i64 0]] ++ []) [3, 2, 1, 0] rfl (by decide)).backL hpost
  clear hpost
  refine wpList_nil ?_
  refine then_normal ?_
  refine wp_seq ?_
  refine wpr ?_
  refine wpl rfl rfl ht (ev_load ht rfl rfl sc_2 (hm.blk_cell 3 rfl rfl)) ?_
  intro a ht
  refine wpl rfl rfl ht (ev_assign ht rfl rfl) ?_
  intro a ht
  refine wpList_nil ?_
  refine then_normal ?_
  refine wp_ret ?_
  have hres := ht.res (P := Try.prog) (w := w) (rs := [.tmp 8]) (vs := [.int .i64 t5.2]) (.tmp rfl .nil)
  obtain rfl := Option.some.inj H
  exact leave ht rfl hres ⟨rfl, ((hm.pick [0] rfl (by decide)).pickφ [] rfl).post fun _ h => h⟩

end Go.Proofs.Ytdpamdedomkomaa.G
