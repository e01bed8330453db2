/- What each Go function computes, as a Lean function, and the proof that it does: written by a program of this session (wip/gen), part 6. -/
import Derived.Test.YtfbdcidedjocdaaGFnExactBestMoves5
namespace Go.Proofs.Ytfbdcidedjocdaa.G
open Go Go.RowKit Go.Proofs.Ytfbdcidedjocdaa.K
set_option linter.unusedVariables false
set_option linter.unusedSimpArgs false

/-! ### slices_Contains_int64_int64: function 74 (slices.Contains[[]int64,int64]) -/
def slices_Contains_int64_int64.f (k : Nat) (s : List Int) (v : Int) : Option (Bool) := (slices_Index_int64_int64.f k s v).bind fun t1 => some (decide (t1 ≥ 0))
set_option maxRecDepth 100000 in
set_option maxHeartbeats 1000000 in
theorem slices_Contains_int64_int64.calls (k : Nat) (X : List Nat) (w0 : World) (A : Option Addr) (c : Nat) (m : Nat) (s : List Int) (v : Int) (r : Bool)
    (hp : Pre X w0 [] [IntsAt A c m s]) (H : slices_Contains_int64_int64.f k s v = some r) :
    Calls Try.prog 74 [.slice A m c, .int .i64 v].toArray w0 (Ret fun v w => v = .bool r ∧ Post X (fps []) w0 [] [] w) := by
  unfold slices_Contains_int64_int64.f at H
  refine enterM (n := 9) hp Try.func74 rfl rfl (Nat.le_of_ble_eq_true rfl) fun a w ht hm => ?_
  refine wp_seq ?_
  refine wpr ?_
  refine wpl rfl rfl ht (ev_assign ht rfl rfl) ?_
  intro a ht
  refine wpList_nil ?_
  refine then_normal ?_
  refine wp_seq ?_
  refine wpr ?_
  refine wpl rfl rfl ht (ev_move ht rfl rfl) ?_
  intro a ht
  refine wpl rfl rfl ht (ev_move ht rfl rfl) ?_
  intro a ht
  obtain ⟨t1, et1, H⟩ := bind_get H
  have hcall := slices_Index_int64_int64.calls k _ _ A c m s v _ ((fun (hq : Ms _ _ _ ([] ++ []) _ _) => hq.lend (φp := [IntsAt A c m s]) (allRO_cons (hq.lendFact 0 rfl) (allRO_nil))) (hm.pick (own' := [] ++ []) [] rfl (by decide))) et1
  refine wpl_call _ rfl rfl ht rfl rfl rfl rfl can_90 hcall ?_
  clear hcall
  rintro _ w ⟨rfl, hpost⟩ a ht
  replace hm := (hm.pick (own' := [] ++ []) [] rfl (by decide)).backL hpost
  clear hpost
  refine wpl rfl rfl ht (ev_cmp ht rfl rfl rfl rfl) ?_
  intro a ht
  refine wpl rfl rfl ht (ev_assign ht rfl rfl) ?_
  intro a ht
  refine wpList_nil ?_
  refine then_normal ?_
  refine wp_ret ?_
  have hres := ht.res (P := Try.prog) (w := w) (rs := [.tmp 4]) (vs := [.bool (decide (t1 ≥ 0))]) (.tmp rfl .nil)
  obtain rfl := Option.some.inj H
  exact leave ht rfl hres ⟨rfl, ((hm.pick [] rfl (by decide)).pickφ [] rfl).post fun _ h => h⟩

/-! ### impl_position_isPosition_1: function 73 ((loop.example/g01362/impl.position).isPosition$1) -/
def impl_position_isPosition_1.f (k : Nat) (edges : List Int) (x : Int) : Option (Bool) := (slices_Contains_int64_int64.f k edges x).bind fun t1 => some !t1
set_option maxRecDepth 100000 in
set_option maxHeartbeats 1000000 in
theorem impl_position_isPosition_1.calls (k : Nat) (X : List Nat) (w0 : World) (A : Option Addr) (c : Nat) (m : Nat) (b : Nat) (edges : List Int) (x : Int) (r : Bool)
    (hp : Pre X w0 [.blk b 2 [.int .i64 x]] [IntsAt A c m edges]) (H : impl_position_isPosition_1.f k edges x = some r) :
    Calls Try.prog 73 [.slice A m c, .pointer (some ⟨b, 0, none⟩)].toArray w0 (Ret fun v w => v = .bool r ∧ Post X (fps [.blk b 2 [.int .i64 x]]) w0 [.blk b 2 [.int .i64 x]] [] w) := by
  unfold impl_position_isPosition_1.f at H
  refine enterM (n := 8) hp Try.func73 rfl rfl (Nat.le_of_ble_eq_true rfl) fun a w ht hm => ?_
  refine wp_seq ?_
  refine wpr ?_
  refine wpl rfl rfl ht (ev_assign ht rfl rfl) ?_
  intro a ht
  refine wpList_nil ?_
  refine then_normal ?_
  refine wp_seq ?_
  refine wpr ?_
  refine wpl rfl rfl ht (ev_move ht rfl rfl) ?_
  intro a ht
  refine wpl rfl rfl ht (ev_load ht rfl rfl sc_2 (hm.blk_cell 0 rfl rfl)) ?_
  intro a ht
  obtain ⟨t1, et1, H⟩ := bind_get H
  have hcall := slices_Contains_int64_int64.calls k _ _ A c m edges x _ ((fun (hq : Ms _ _ _ ([] ++ [.blk b 2 [.int .i64 x]]) _ _) => hq.lend (φp := [IntsAt A c m edges]) (allRO_cons (hq.lendFact 0 rfl) (allRO_nil))) (hm.pick (own' := [] ++ [.blk b 2 [.int .i64 x]]) [0] rfl (by decide))) et1
  refine wpl_call _ rfl rfl ht rfl rfl rfl rfl can_74 hcall ?_
  clear hcall
  rintro _ w ⟨rfl, hpost⟩ a ht
  replace hm := (hm.pick (own' := [] ++ [.blk b 2 [.int .i64 x]]) [0] rfl (by decide)).backL hpost
  clear hpost
  refine wpl rfl rfl ht (ev_not ht rfl rfl) ?_
  intro a ht
  refine wpl rfl rfl ht (ev_assign ht rfl rfl) ?_
  intro a ht
  refine wpList_nil ?_
  refine then_normal ?_
  refine wp_ret ?_
  have hres := ht.res (P := Try.prog) (w := w) (rs := [.tmp 3]) (vs := [.bool !t1]) (.tmp rfl .nil)
  obtain rfl := Option.some.inj H
  exact leave ht rfl hres ⟨rfl, ((hm.pick [0] rfl (by decide)).pickφ [] rfl).post fun _ h => h⟩

/-! ### slices_IndexFunc_int64_int64__position_isPosition_1: function 89 (slices.IndexFunc[[][]int64,[]int64]) -/
def slices_IndexFunc_int64_int64__position_isPosition_1.l0 : Nat → List (List Int) → Int → Int → Option (Int)
  | 0, _, _, _ => none
  | q1 + 1, s, f, xs0_1 => if xs0_1 < (s.length : Int) then ((getR s xs0_1).bind fun l3 => (impl_position_isPosition_1.f q1 l3 f).bind fun t8 => if t8 = true then (some xs0_1) else (slices_IndexFunc_int64_int64__position_isPosition_1.l0 q1 s f (w64 (xs0_1 + 1)))) else (some (-1))
def slices_IndexFunc_int64_int64__position_isPosition_1.f (k : Nat) (s : List (List Int)) (f : Int) : Option (Int) := slices_IndexFunc_int64_int64__position_isPosition_1.l0 k s f 0
set_option maxRecDepth 100000 in
set_option maxHeartbeats 1000000 in
theorem slices_IndexFunc_int64_int64__position_isPosition_1.calls (k : Nat) (X : List Nat) (w0 : World) (A : Option Addr) (c : Nat) (m : Nat) (vs : List Value) (b : Nat) (s : List (List Int)) (f : Int) (r : Int)
    (hp : Pre X w0 [.blk b 2 [.int .i64 f]] [RowsAt A c m vs s]) (H : slices_IndexFunc_int64_int64__position_isPosition_1.f k s f = some r) :
    Calls Try.prog 89 [.slice A m c, .func (.func 73) [].toArray [.pointer (some ⟨b, 0, none⟩)].toArray].toArray w0 (Ret fun v w => v = .int .i64 r ∧ Post X (fps [.blk b 2 [.int .i64 f]]) w0 [.blk b 2 [.int .i64 f]] [] w) := by
  unfold slices_IndexFunc_int64_int64__position_isPosition_1.f at H
  refine enterM (n := 19) hp Try.func89 rfl rfl (Nat.le_of_ble_eq_true rfl) fun a w ht hm => ?_
  refine wp_seq ?_
  refine wpr ?_
  refine wpl rfl rfl ht (ev_assign ht rfl rfl) ?_
  intro a ht
  refine wpList_nil ?_
  refine then_normal ?_
  refine wp_seq ?_
  refine wp_seq ?_
  refine wpr ?_
  refine wpl rfl rfl ht (ev_move ht rfl rfl) ?_
  intro a ht
  refine wpl rfl rfl ht (ev_len_rows ht rfl rfl und_52 (hm.fact (φ := RowsAt A c m vs s) 0 rfl)) ?_
  intro a ht
  refine wpl rfl rfl ht (ev_move ht rfl rfl) ?_
  intro a ht
  refine wpList_nil ?_
  refine then_normal ?_
  refine wp_block ?_
  refine wpLoop (fun q a w => ∃ (xs0_1 : Int), slices_IndexFunc_int64_int64__position_isPosition_1.l0 q s f xs0_1 = some r ∧ q ≤ k ∧ Tm 19 [(0, .slice A m c), (1, .func (.func 73) [].toArray [.pointer (some ⟨b, 0, none⟩)].toArray), (4, .int .i64 0), (7, .int .i64 (s.length : Int)), (8, .int .i64 xs0_1)] a ∧ Ms X (fps [.blk b 2 [.int .i64 f]]) w0 [.blk b 2 [.int .i64 f]] [RowsAt A c m vs s] w) (k0 := k) ⟨0, H, Nat.le_refl _, ht.sub ⟨rfl, rfl, rfl, rfl, rfl, trivial⟩, (hm.pick [0] rfl (by decide)).pickφ [0] rfl⟩ ?_
  clear H ht hm
  intro q1 a w hJ
  obtain ⟨xs0_1, H, hqq1, ht, hm⟩ := hJ
  cases q1 with
  | zero => cases H
  | succ q1 =>
  rw [slices_IndexFunc_int64_int64__position_isPosition_1.l0] at H
  refine wp_seq ?_
  refine wpr ?_
  refine wpl rfl rfl ht (ev_cmp ht rfl rfl rfl rfl) ?_
  intro a ht
  refine wpList_nil ?_
  refine then_normal ?_
  refine wp_seq ?_
  by_cases h2 : xs0_1 < (s.length : Int)
  · replace H := ite_yes h2 H
    refine wpc_yes ht rfl (decide_eq_true h2) ?_
    refine wp_skip ?_
    refine then_normal ?_
    refine wp_seq ?_
    refine wp_block ?_
    refine wp_seq ?_
    refine wpr ?_
    refine wpl rfl rfl ht (ev_move ht rfl rfl) ?_
    intro a ht
    refine wpl rfl rfl ht (ev_assign ht rfl rfl) ?_
    intro a ht
    refine wpList_nil ?_
    refine then_normal ?_
    refine wp_seq ?_
    refine wpr ?_
    refine wpl rfl rfl ht (ev_move ht rfl rfl) ?_
    intro a ht
    refine wpl rfl rfl ht (ev_move ht rfl rfl) ?_
    intro a ht
    refine wpl rfl rfl ht (ev_move ht rfl rfl) ?_
    intro a ht
    obtain ⟨l3, el3, H⟩ := bind_get H
    refine wpl rfl rfl ht (ev_index_rows ht rfl rfl rfl so_52 (hm.fact (φ := RowsAt A c m vs s) 0 rfl) el3) ?_
    intro a ht
    obtain ⟨A4, c5, m6, hv7, hI⟩ := rowsAt_get (hm.fact (φ := RowsAt A c m vs s) 0 rfl) el3
    refine wpl rfl rfl ht (ev_load ht rfl rfl sc_22 (RowsAt.cell (hm.fact (φ := RowsAt A c m vs s) 0 rfl) hv7)) ?_
    intro a ht
    replace hm : Ms _ _ _ _ (IntsAt A4 c5 m6 l3 :: _) w := hm.addφ ((hm.ro 0 rfl).mono fun w h => rowsAt_at h hv7 el3)
    clear hI
    obtain ⟨t8, et8, H⟩ := bind_get H
    have hcall := impl_position_isPosition_1.calls q1 _ _ A4 c5 m6 b l3 f _ ((fun (hq : Ms _ _ _ ([.blk b 2 [.int .i64 f]] ++ []) _ _) => hq.lend (φp := [IntsAt A4 c5 m6 l3]) (allRO_cons (hq.lendFact 0 rfl) (allRO_nil))) (hm.pick (own' := [.blk b 2 [.int .i64 f]] ++ []) [0] rfl (by decide))) et8
    refine wpl_call _ rfl rfl ht rfl rfl rfl rfl can_73 hcall ?_
    clear hcall
    rintro _ w ⟨rfl, hpost⟩ a ht
    replace hm := (hm.pick (own' := [.blk b 2 [.int .i64 f]] ++ []) [0] rfl (by decide)).backL hpost
    clear hpost
    refine wpList_nil ?_
    refine then_normal ?_
    by_cases h9 : t8 = true
    · replace H := ite_yes h9 H
      refine wpc_yes ht rfl h9 ?_
      refine wp_seq ?_
      refine wpr ?_
      refine wpl rfl rfl ht (ev_move ht rfl rfl) ?_
      intro a ht
      refine wpl rfl rfl ht (ev_assign ht rfl rfl) ?_
      intro a ht
      refine wpList_nil ?_
      refine then_normal ?_
      refine wp_ret ?_
      refine blk_ret ?_
      refine then_ret ?_
      refine then_ret ?_
      refine blk_ret ?_
      refine then_ret ?_
      have hres := ht.res (P := Try.prog) (w := w) (rs := [.tmp 4]) (vs := [.int .i64 xs0_1]) (.tmp rfl .nil)
      obtain rfl := Option.some.inj H
      exact leave ht rfl hres ⟨rfl, ((hm.pick [0] rfl (by decide)).pickφ [] rfl).post fun _ h => h⟩
    · replace H := ite_no h9 H
      refine wpc_no ht rfl (Bool.eq_false_iff.mpr h9) ?_
      refine wp_skip ?_
      refine blk_normal ?_
      refine then_normal ?_
      refine wpr ?_
      refine wpl rfl rfl ht (ev_arith ht rfl rfl rfl rfl) ?_
      intro a ht
      refine wpl rfl rfl ht (ev_move ht rfl rfl) ?_
      intro a ht
      refine wpList_nil ?_
      exact then_normal ⟨q1, by omega, (w64 (xs0_1 + 1)), H, by omega, ht.sub ⟨rfl, rfl, rfl, rfl, rfl, trivial⟩, (hm.pick [0] rfl (by decide)).pickφ [1] rfl⟩
  · replace H := ite_no h2 H
    refine wpc_no ht rfl (decide_eq_false h2) ?_
    refine wp_exit ?_
    refine then_exit ?_
    refine then_exit ?_
    refine blk_hit ?_
    refine then_normal ?_
    refine wp_seq ?_
    refine wpr ?_
    refine wpl rfl rfl ht (ev_assign ht rfl rfl) ?_
    intro a ht
    refine wpList_nil ?_
    refine then_normal ?_
    refine wp_ret ?_
    have hres := ht.res (P := Try.prog) (w := w) (rs := [.tmp 4]) (vs := [.int .i64 (-1)]) (.tmp rfl .nil)
    obtain rfl := Option.some.inj H
    exact leave ht rfl hres ⟨rfl, ((hm.pick [0] rfl (by decide)).pickφ [] rfl).post fun _ h => h⟩

/-! ### slices_ContainsFunc_int64_int64__position_isPosition_1: function 72 (slices.ContainsFunc[[][]int64,[]int64]) -/
def slices_ContainsFunc_int64_int64__position_isPosition_1.f (k : Nat) (s : List (List Int)) (f : Int) : Option (Bool) := (slices_IndexFunc_int64_int64__position_isPosition_1.f k s f).bind fun t1 => some (decide (t1 ≥ 0))
set_option maxRecDepth 100000 in
set_option maxHeartbeats 1000000 in
theorem slices_ContainsFunc_int64_int64__position_isPosition_1.calls (k : Nat) (X : List Nat) (w0 : World) (A : Option Addr) (c : Nat) (m : Nat) (vs : List Value) (b : Nat) (s : List (List Int)) (f : Int) (r : Bool)
    (hp : Pre X w0 [.blk b 2 [.int .i64 f]] [RowsAt A c m vs s]) (H : slices_ContainsFunc_int64_int64__position_isPosition_1.f k s f = some r) :
    Calls Try.prog 72 [.slice A m c, .func (.func 73) [].toArray [.pointer (some ⟨b, 0, none⟩)].toArray].toArray w0 (Ret fun v w => v = .bool r ∧ Post X (fps [.blk b 2 [.int .i64 f]]) w0 [.blk b 2 [.int .i64 f]] [] w) := by
  unfold slices_ContainsFunc_int64_int64__position_isPosition_1.f at H
  refine enterM (n := 9) hp Try.func72 rfl rfl (Nat.le_of_ble_eq_true rfl) fun a w ht hm => ?_
  refine wp_seq ?_
  refine wpr ?_
  refine wpl rfl rfl ht (ev_assign ht rfl rfl) ?_
  intro a ht
  refine wpList_nil ?_
  refine then_normal ?_
  refine wp_seq ?_
  refine wpr ?_
  refine wpl rfl rfl ht (ev_move ht rfl rfl) ?_
  intro a ht
  refine wpl rfl rfl ht (ev_move ht rfl rfl) ?_
  intro a ht
  obtain ⟨t1, et1, H⟩ := bind_get H
  have hcall := slices_IndexFunc_int64_int64__position_isPosition_1.calls k _ _ A c m vs b s f _ ((fun (hq : Ms _ _ _ ([.blk b 2 [.int .i64 f]] ++ []) _ _) => hq.lend (φp := [RowsAt A c m vs s]) (allRO_cons (hq.lendFact 0 rfl) (allRO_nil))) (hm.pick (own' := [.blk b 2 [.int .i64 f]] ++ []) [0] rfl (by decide))) et1
  refine wpl_call _ rfl rfl ht rfl rfl rfl rfl can_89 hcall ?_
  clear hcall
  rintro _ w ⟨rfl, hpost⟩ a ht
  replace hm := (hm.pick (own' := [.blk b 2 [.int .i64 f]] ++ []) [0] rfl (by decide)).backL hpost
  clear hpost
  refine wpl rfl rfl ht (ev_cmp ht rfl rfl rfl rfl) ?_
  intro a ht
  refine wpl rfl rfl ht (ev_assign ht rfl rfl) ?_
  intro a ht
  refine wpList_nil ?_
  refine then_normal ?_
  refine wp_ret ?_
  have hres := ht.res (P := Try.prog) (w := w) (rs := [.tmp 4]) (vs := [.bool (decide (t1 ≥ 0))]) (.tmp rfl .nil)
  obtain rfl := Option.some.inj H
  exact leave ht rfl hres ⟨rfl, ((hm.pick [0] rfl (by decide)).pickφ [] rfl).post fun _ h => h⟩

/-! ### impl_position_isPosition: function 40 ((loop.example/g01362/impl.position).isPosition) -/
def impl_position_isPosition.l0 : Nat → List (List Int) → Int → Int → Option (Bool)
  | 0, _, _, _ => none
  | q19 + 1, t13, t18, xs0_1 => if xs0_1 < t18 then ((slices_ContainsFunc_int64_int64__position_isPosition_1.f q19 t13 xs0_1).bind fun t22 => if t22 = true then (impl_position_isPosition.l0 q19 t13 t18 (w64 (xs0_1 + 1))) else (some true)) else (some (decide ((t13.length : Int) = 0)))
def impl_position_isPosition.f (k : Nat) (p : Int) (p2 : List Int) : Option (Bool) := (impl_position_mover.f k p p2).bind fun t2 => (impl_in.f t2 0 1).bind fun t3 => if t3 = true then ((impl_position_mover.f k p p2).bind fun t5 => (impl_position_triangles.f k p p2 t5).bind fun t6 => if (t6.length : Int) > 0 then (some false) else ((impl_position_mover.f k p p2).bind fun t12 => (impl_position_triangles.f k p p2 (w64 (1 - t12))).bind fun t13 => (impl_size_int64.f p2).bind fun t18 => impl_position_isPosition.l0 k t13 t18 0)) else (some false)
set_option maxRecDepth 100000 in
set_option maxHeartbeats 1000000 in
theorem impl_position_isPosition.calls (k : Nat) (X : List Nat) (w0 : World) (A : Option Addr) (c : Nat) (m : Nat) (p : Int) (p2 : List Int) (r : Bool)
    (hp : Pre X w0 [] [IntsAt A c m p2]) (H : impl_position_isPosition.f k p p2 = some r) :
    Calls Try.prog 40 [.agg [.int .i64 p, .slice A m c].toArray].toArray w0 (Ret fun v w => v = .bool r ∧ Post X (fps []) w0 [] [] w) := by
  unfold impl_position_isPosition.f at H
  refine enterM (n := 36) hp Try.func40 rfl rfl (Nat.le_of_ble_eq_true rfl) fun a w ht hm => ?_
  refine wp_seq ?_
  refine wpr ?_
  refine wpl_box rfl rfl ht hm rfl rfl rfl ?_
  intro b1 a ht w hm
  refine wpl rfl rfl ht (ev_assign ht rfl rfl) ?_
  intro a ht
  refine wpList_nil ?_
  refine then_normal ?_
  refine wp_seq ?_
  refine wp_seq ?_
  refine wph_begin (fun w => Ms X (fps []) w0 [.blk b1 35 [.int .i64 p, .slice A m c]] [IntsAt A c m p2] w) mixed ?_
  replace hm := hm.drew
  have hS : Ms X (fps []) w0 [.blk b1 35 [.int .i64 p, .slice A m c]] [IntsAt A c m p2] w.drew := (hm.pick [0] rfl (by decide)).pickφ [0] rfl
  generalize w.drew = w at hm hS ⊢
  refine wph_take (i := 0) rfl (by kernel_rfl) (by kernel_rfl) (by kernel_rfl) (fun _ _ _ h => h) rfl ht hS (wanted_plain rfl) (fun w hm => ev_load_agg (xs := [.int .i64 p, .slice A m c]) ht rfl rfl ag_35 (hm.blk_all 0 rfl)) ?_
  intro a ht
  refine wph_one (i := 1) (by kernel_rfl) (wph_step rfl ?_)
  obtain ⟨t2, et2, H⟩ := bind_get H
  have hcall := impl_position_mover.calls k _ _ A c m p p2 _ ((fun (hq : Ms _ _ _ ([] ++ [.blk b1 35 [.int .i64 p, .slice A m c]]) _ _) => hq.lend (φp := [IntsAt A c m p2]) (allRO_cons (hq.lendFact 0 rfl) (allRO_nil))) (hm.pick (own' := [] ++ [.blk b1 35 [.int .i64 p, .slice A m c]]) [0] rfl (by decide))) et2
  refine wpl_call _ rfl rfl ht rfl rfl rfl rfl can_52 hcall ?_
  clear hcall
  rintro _ w ⟨rfl, hpost⟩ a ht
  replace hm := (hm.pick (own' := [] ++ [.blk b1 35 [.int .i64 p, .slice A m c]]) [0] rfl (by decide)).backL hpost
  clear hpost
  have hS : Ms X (fps []) w0 [.blk b1 35 [.int .i64 p, .slice A m c]] [IntsAt A c m p2] w := (hm.pick [0] rfl (by decide)).pickφ [0] rfl
  refine wpList_nil (qn ⟨hS, ?_⟩)
  refine wph_one (i := 2) (by kernel_rfl) (wph_step rfl ?_)
  obtain ⟨t3, et3, H⟩ := bind_get H
  have hcall := impl_in.calls _ _ t2 0 1 _ ((fun (hq : Ms _ _ _ ([] ++ [.blk b1 35 [.int .i64 p, .slice A m c]]) _ _) => hq.lend (φp := []) (allRO_nil)) (hm.pick (own' := [] ++ [.blk b1 35 [.int .i64 p, .slice A m c]]) [0] rfl (by decide))) et3
  refine wpl_call _ rfl rfl ht rfl rfl rfl rfl can_58 hcall ?_
  clear hcall
  rintro _ w ⟨rfl, hpost⟩ a ht
  replace hm := (hm.pick (own' := [] ++ [.blk b1 35 [.int .i64 p, .slice A m c]]) [0] rfl (by decide)).backL hpost
  clear hpost
  have hS : Ms X (fps []) w0 [.blk b1 35 [.int .i64 p, .slice A m c]] [IntsAt A c m p2] w := (hm.pick [0] rfl (by decide)).pickφ [0] rfl
  refine wpList_nil (qn ⟨hS, ?_⟩)
  refine wph_take (i := 3) rfl (by kernel_rfl) (by kernel_rfl) (by kernel_rfl) (fun _ _ _ h => h) rfl ht hS (wanted_plain rfl) (fun w hm => ev_not ht rfl rfl) ?_
  intro a ht
  refine wph_take (i := 4) rfl (by kernel_rfl) (by kernel_rfl) (by kernel_rfl) (fun _ _ _ h => h) rfl ht hS (wanted_plain rfl) (fun w hm => ev_move ht rfl rfl) ?_
  intro a ht
  by_cases h4 : t3 = true
  · replace H := ite_yes h4 H
    refine wph_take (i := 5) rfl (by kernel_rfl) (by kernel_rfl) (by kernel_rfl) (fun _ _ _ h => h) rfl ht hS (wanted_yes rfl ht rfl ((not_t h4))) (fun w hm => ev_load_agg (xs := [.int .i64 p, .slice A m c]) ht rfl rfl ag_35 (hm.blk_all 0 rfl)) ?_
    intro a ht
    refine wph_take (i := 6) rfl (by kernel_rfl) (by kernel_rfl) (by kernel_rfl) (fun _ _ _ h => h) rfl ht hS (wanted_yes rfl ht rfl ((not_t h4))) (fun w hm => ev_load_agg (xs := [.int .i64 p, .slice A m c]) ht rfl rfl ag_35 (hm.blk_all 0 rfl)) ?_
    intro a ht
    refine wph_one (i := 7) (by kernel_rfl) (wph_step rfl ?_)
    refine wpl_yes rfl ht rfl ((not_t h4)) ?_
    obtain ⟨t5, et5, H⟩ := bind_get H
    have hcall := impl_position_mover.calls k _ _ A c m p p2 _ ((fun (hq : Ms _ _ _ ([] ++ [.blk b1 35 [.int .i64 p, .slice A m c]]) _ _) => hq.lend (φp := [IntsAt A c m p2]) (allRO_cons (hq.lendFact 0 rfl) (allRO_nil))) (hm.pick (own' := [] ++ [.blk b1 35 [.int .i64 p, .slice A m c]]) [0] rfl (by decide))) et5
    refine wpl_call _ rfl rfl ht rfl rfl rfl rfl can_52 hcall ?_
    clear hcall
    rintro _ w ⟨rfl, hpost⟩ a ht
    replace hm := (hm.pick (own' := [] ++ [.blk b1 35 [.int .i64 p, .slice A m c]]) [0] rfl (by decide)).backL hpost
    clear hpost
    have hS : Ms X (fps []) w0 [.blk b1 35 [.int .i64 p, .slice A m c]] [IntsAt A c m p2] w := (hm.pick [0] rfl (by decide)).pickφ [0] rfl
    refine wpList_nil (qn ⟨hS, ?_⟩)
    refine wph_one (i := 8) (by kernel_rfl) (wph_step rfl ?_)
    refine wpl_yes rfl ht rfl ((not_t h4)) ?_
    obtain ⟨t6, et6, H⟩ := bind_get H
    have hcall := impl_position_triangles.calls k _ _ A c m p p2 t5 _ ((hm.pick (own' := [] ++ [.blk b1 35 [.int .i64 p, .slice A m c]]) [0] rfl (by decide)).give (passed := []) (rest := [.blk b1 35 [.int .i64 p, .slice A m c]]) (φp := [IntsAt A c m p2]) [0] rfl) et6
    refine wpl_call _ rfl rfl ht rfl rfl rfl rfl can_62 hcall ?_
    clear hcall
    rintro _ w ⟨A7, c8, m9, vs10, rfl, hpost⟩ a ht
    replace hm := (hm.pick (own' := [] ++ [.blk b1 35 [.int .i64 p, .slice A m c]]) [0] rfl (by decide)).back hpost
    clear hpost
    have hS : Ms X (fps []) w0 [.blk b1 35 [.int .i64 p, .slice A m c]] [IntsAt A c m p2] w := (hm.pick [1] rfl (by decide)).pickφ [1] rfl
    refine wpList_nil (qn ⟨hS, ?_⟩)
    refine wph_one (i := 9) (by kernel_rfl) (wph_step rfl ?_)
    refine wpl_yes rfl ht rfl ((not_t h4)) ?_
    refine wpl rfl rfl ht (ev_len_rows ht rfl rfl und_52 (hm.rowsOf 0 0 rfl rfl)) ?_
    intro a ht
    have hS : Ms X (fps []) w0 [.blk b1 35 [.int .i64 p, .slice A m c]] [IntsAt A c m p2] w := (hm.pick [1] rfl (by decide)).pickφ [1] rfl
    refine wpList_nil (qn ⟨hS, ?_⟩)
    refine wph_take (i := 10) rfl (by kernel_rfl) (by kernel_rfl) (by kernel_rfl) (fun _ _ _ h => h) rfl ht hS (wanted_yes rfl ht rfl ((not_t h4))) (fun w hm => ev_cmp ht rfl rfl rfl rfl) ?_
    intro a ht
    refine wph_take (i := 11) rfl (by kernel_rfl) (by kernel_rfl) (by kernel_rfl) (fun _ _ _ h => h) rfl ht hS (wanted_plain rfl) (fun w hm => ev_pick_no ht rfl rfl (not_t h4) rfl) ?_
    intro a ht
    refine wph_done (by kernel_rfl) ?_
    refine then_normal ?_
    by_cases h11 : (t6.length : Int) > 0
    · replace H := ite_yes h11 H
      refine wpc_yes ht rfl (decide_eq_true h11) ?_
      refine wp_seq ?_
      refine wpr ?_
      refine wpl rfl rfl ht (ev_assign ht rfl rfl) ?_
      intro a ht
      refine wpList_nil ?_
      refine then_normal ?_
      refine wp_ret ?_
      refine then_ret ?_
      have hres := ht.res (P := Try.prog) (w := w) (rs := [.tmp 2]) (vs := [.bool false]) (.tmp rfl .nil)
      obtain rfl := Option.some.inj H
      exact leave ht rfl hres ⟨rfl, ((hm.pick [] rfl (by decide)).pickφ [] rfl).post fun _ h => h⟩
    · replace H := ite_no h11 H
      refine wpc_no ht rfl (decide_eq_false h11) ?_
      refine wp_skip ?_
      refine then_normal ?_
      refine wp_seq ?_
      refine wph_begin (fun w => Ms X (fps []) w0 [.vec A7 c8 22 1 m9 vs10, .blk b1 35 [.int .i64 p, .slice A m c]] [AllInts vs10 t6, IntsAt A c m p2] w) mixed ?_
      replace hm := hm.drew
      have hS : Ms X (fps []) w0 [.vec A7 c8 22 1 m9 vs10, .blk b1 35 [.int .i64 p, .slice A m c]] [AllInts vs10 t6, IntsAt A c m p2] w.drew := (hm.pick [0, 1] rfl (by decide)).pickφ [0, 1] rfl
      generalize w.drew = w at hm hS ⊢
      refine wph_take (i := 0) rfl (by kernel_rfl) (by kernel_rfl) (by kernel_rfl) (fun _ _ _ h => h) rfl ht hS (wanted_plain rfl) (fun w hm => ev_load_agg (xs := [.int .i64 p, .slice A m c]) ht rfl rfl ag_35 (hm.blk_all 1 rfl)) ?_
      intro a ht
      refine wph_take (i := 1) rfl (by kernel_rfl) (by kernel_rfl) (by kernel_rfl) (fun _ _ _ h => h) rfl ht hS (wanted_plain rfl) (fun w hm => ev_load_agg (xs := [.int .i64 p, .slice A m c]) ht rfl rfl ag_35 (hm.blk_all 1 rfl)) ?_
      intro a ht
      refine wph_one (i := 2) (by kernel_rfl) (wph_step rfl ?_)
      obtain ⟨t12, et12, H⟩ := bind_get H
      have hcall := impl_position_mover.calls k _ _ A c m p p2 _ ((fun (hq : Ms _ _ _ ([] ++ [.vec A7 c8 22 1 m9 vs10, .blk b1 35 [.int .i64 p, .slice A m c]]) _ _) => hq.lend (φp := [IntsAt A c m p2]) (allRO_cons (hq.lendFact 1 rfl) (allRO_nil))) (hm.pick (own' := [] ++ [.vec A7 c8 22 1 m9 vs10, .blk b1 35 [.int .i64 p, .slice A m c]]) [0, 1] rfl (by decide))) et12
      refine wpl_call _ rfl rfl ht rfl rfl rfl rfl can_52 hcall ?_
      clear hcall
      rintro _ w ⟨rfl, hpost⟩ a ht
      replace hm := (hm.pick (own' := [] ++ [.vec A7 c8 22 1 m9 vs10, .blk b1 35 [.int .i64 p, .slice A m c]]) [0, 1] rfl (by decide)).backL hpost
      clear hpost
      have hS : Ms X (fps []) w0 [.vec A7 c8 22 1 m9 vs10, .blk b1 35 [.int .i64 p, .slice A m c]] [AllInts vs10 t6, IntsAt A c m p2] w := (hm.pick [0, 1] rfl (by decide)).pickφ [0, 1] rfl
      refine wpList_nil (qn ⟨hS, ?_⟩)
      refine wph_take (i := 3) rfl (by kernel_rfl) (by kernel_rfl) (by kernel_rfl) (fun _ _ _ h => h) rfl ht hS (wanted_plain rfl) (fun w hm => ev_arith ht rfl rfl rfl rfl) ?_
      intro a ht
      refine wph_one (i := 4) (by kernel_rfl) (wph_step rfl ?_)
      obtain ⟨t13, et13, H⟩ := bind_get H
      have hcall := impl_position_triangles.calls k _ _ A c m p p2 (w64 (1 - t12)) _ ((hm.pick (own' := [] ++ [.vec A7 c8 22 1 m9 vs10, .blk b1 35 [.int .i64 p, .slice A m c]]) [0, 1] rfl (by decide)).give (passed := []) (rest := [.vec A7 c8 22 1 m9 vs10, .blk b1 35 [.int .i64 p, .slice A m c]]) (φp := [IntsAt A c m p2]) [1] rfl) et13
      refine wpl_call _ rfl rfl ht rfl rfl rfl rfl can_62 hcall ?_
      clear hcall
      rintro _ w ⟨A14, c15, m16, vs17, rfl, hpost⟩ a ht
      replace hm := (hm.pick (own' := [] ++ [.vec A7 c8 22 1 m9 vs10, .blk b1 35 [.int .i64 p, .slice A m c]]) [0, 1] rfl (by decide)).back hpost
      clear hpost
      have hS : Ms X (fps []) w0 [.vec A7 c8 22 1 m9 vs10, .blk b1 35 [.int .i64 p, .slice A m c]] [AllInts vs10 t6, IntsAt A c m p2] w := (hm.pick [1, 2] rfl (by decide)).pickφ [1, 2] rfl
      refine wpList_nil (qn ⟨hS, ?_⟩)
      refine wph_take (i := 5) rfl (by kernel_rfl) (by kernel_rfl) (by kernel_rfl) (fun _ _ _ h => h) rfl ht hS (wanted_plain rfl) (fun w hm => ev_assign ht rfl rfl) ?_
      intro a ht
      refine wph_done (by kernel_rfl) ?_
      refine then_normal ?_
      refine wp_seq ?_
      refine wp_seq ?_
      refine wpr ?_
      refine wpl rfl rfl ht (ev_fieldAddr ht rfl rfl fo_35_1) ?_
      intro a ht
      refine wpl rfl rfl ht (ev_load ht rfl rfl sc_22 (hm.blk_cell 2 rfl rfl)) ?_
      intro a ht
      obtain ⟨t18, et18, H⟩ := bind_get H
      have hcall := impl_size_int64.calls _ _ A c m p2 _ ((fun (hq : Ms _ _ _ ([] ++ [.vec A14 c15 22 1 m16 vs17, .vec A7 c8 22 1 m9 vs10, .blk b1 35 [.int .i64 p, .slice A m c]]) _ _) => hq.lend (φp := [IntsAt A c m p2]) (allRO_cons (hq.lendFact 2 rfl) (allRO_nil))) (hm.pick (own' := [] ++ [.vec A14 c15 22 1 m16 vs17, .vec A7 c8 22 1 m9 vs10, .blk b1 35 [.int .i64 p, .slice A m c]]) [0, 1, 2] rfl (by decide))) et18
      refine wpl_call _ rfl rfl ht rfl rfl rfl rfl can_59 hcall ?_
      clear hcall
      rintro _ w ⟨rfl, hpost⟩ a ht
      replace hm := (hm.pick (own' := [] ++ [.vec A14 c15 22 1 m16 vs17, .vec A7 c8 22 1 m9 vs10, .blk b1 35 [.int .i64 p, .slice A m c]]) [0, 1, 2] rfl (by decide)).backL hpost
      clear hpost
      refine wpl rfl rfl ht (ev_move ht rfl rfl) ?_
      intro a ht
      refine wpList_nil ?_
      refine then_normal ?_
      refine wp_block ?_
      refine wpLoop (fun q a w => ∃ (xs0_1 : Int), impl_position_isPosition.l0 q t13 t18 xs0_1 = some r ∧ q ≤ k ∧ Tm 36 [(2, .bool false), (3, .slice A14 m16 c15), (24, .int .i64 t18), (25, .int .i64 xs0_1)] a ∧ Ms X (fps []) w0 [.vec A14 c15 22 1 m16 vs17, .vec A7 c8 22 1 m9 vs10, .blk b1 35 [.int .i64 p, .slice A m c]] [AllInts vs17 t13, AllInts vs10 t6, IntsAt A c m p2] w) (k0 := k) ⟨0, H, Nat.le_refl _, ht.sub ⟨rfl, rfl, rfl, rfl, trivial⟩, (hm.pick [0, 1, 2] rfl (by decide)).pickφ [0, 1, 2] rfl⟩ ?_
      clear H ht hm
      intro q19 a w hJ
      obtain ⟨xs0_1, H, hqq19, ht, hm⟩ := hJ
      cases q19 with
      | zero => cases H
      | succ q19 =>
      rw [impl_position_isPosition.l0] at H
      refine wp_seq ?_
      refine wpr ?_
      refine wpl rfl rfl ht (ev_cmp ht rfl rfl rfl rfl) ?_
      intro a ht
      refine wpList_nil ?_
      refine then_normal ?_
      refine wp_seq ?_
      by_cases h20 : xs0_1 < t18
      · replace H := ite_yes h20 H
        refine wpc_yes ht rfl (decide_eq_true h20) ?_
        refine wp_skip ?_
        refine then_normal ?_
        refine wp_seq ?_
        refine wp_block ?_
        refine wp_seq ?_
        refine wpr ?_
        refine wpl rfl rfl ht (ev_move ht rfl rfl) ?_
        intro a ht
        refine wpl_alloc rfl rfl ht hm rfl zo_2 ?_
        intro b21 a ht w hm
        refine wpl_store_blk 0 rfl rfl ht hm rfl rfl rfl sz1_2 rfl rfl rfl ?_
        intro a ht w hm
        refine wpList_nil ?_
        refine then_normal ?_
        refine wp_seq ?_
        refine wpr ?_
        refine wpl rfl rfl ht (ev_move ht rfl rfl) ?_
        intro a ht
        refine wpl rfl rfl ht (ev_makeFunc ht rfl rfl rfl) ?_
        intro a ht
        obtain ⟨t22, et22, H⟩ := bind_get H
        have hcall := slices_ContainsFunc_int64_int64__position_isPosition_1.calls q19 _ _ A14 c15 m16 vs17 b21 t13 xs0_1 _ ((fun (hq : Ms _ _ _ ([.blk b21 2 [.int .i64 xs0_1]] ++ [.vec A14 c15 22 1 m16 vs17, .vec A7 c8 22 1 m9 vs10, .blk b1 35 [.int .i64 p, .slice A m c]]) _ _) => hq.lend (φp := [RowsAt A14 c15 m16 vs17 t13]) (allRO_cons (hq.lendRows 0 0 rfl rfl) (allRO_nil))) (hm.pick (own' := [.blk b21 2 [.int .i64 xs0_1]] ++ [.vec A14 c15 22 1 m16 vs17, .vec A7 c8 22 1 m9 vs10, .blk b1 35 [.int .i64 p, .slice A m c]]) [0, 1, 2, 3] rfl (by decide))) et22
        refine wpl_call _ rfl rfl ht rfl rfl rfl rfl can_72 hcall ?_
        clear hcall
        rintro _ w ⟨rfl, hpost⟩ a ht
        replace hm := (hm.pick (own' := [.blk b21 2 [.int .i64 xs0_1]] ++ [.vec A14 c15 22 1 m16 vs17, .vec A7 c8 22 1 m9 vs10, .blk b1 35 [.int .i64 p, .slice A m c]]) [0, 1, 2, 3] rfl (by decide)).backL hpost
        clear hpost
        refine wpl rfl rfl ht (ev_not ht rfl rfl) ?_
        intro a ht
        refine wpList_nil ?_
        refine then_normal ?_
        by_cases h23 : t22 = true
        · replace H := ite_yes h23 H
          refine wpc_no ht rfl (not_t h23) ?_
          refine wp_skip ?_
          refine blk_normal ?_
          refine then_normal ?_
          refine wpr ?_
          refine wpl rfl rfl ht (ev_arith ht rfl rfl rfl rfl) ?_
          intro a ht
          refine wpl rfl rfl ht (ev_move ht rfl rfl) ?_
          intro a ht
          refine wpList_nil ?_
          exact then_normal ⟨q19, by omega, (w64 (xs0_1 + 1)), H, by omega, ht.sub ⟨rfl, rfl, rfl, rfl, trivial⟩, (hm.pick [1, 2, 3] rfl (by decide)).pickφ [0, 1, 2] rfl⟩
        · replace H := ite_no h23 H
          refine wpc_yes ht rfl (not_f (Bool.eq_false_iff.mpr h23)) ?_
          refine wp_seq ?_
          refine wpr ?_
          refine wpl rfl rfl ht (ev_assign ht rfl rfl) ?_
          intro a ht
          refine wpList_nil ?_
          refine then_normal ?_
          refine wp_ret ?_
          refine blk_ret ?_
          refine then_ret ?_
          refine then_ret ?_
          refine blk_ret ?_
          refine then_ret ?_
          have hres := ht.res (P := Try.prog) (w := w) (rs := [.tmp 2]) (vs := [.bool true]) (.tmp rfl .nil)
          obtain rfl := Option.some.inj H
          exact leave ht rfl hres ⟨rfl, ((hm.pick [] rfl (by decide)).pickφ [] rfl).post fun _ h => h⟩
      · replace H := ite_no h20 H
        refine wpc_no ht rfl (decide_eq_false h20) ?_
        refine wp_exit ?_
        refine then_exit ?_
        refine then_exit ?_
        refine blk_hit ?_
        refine then_normal ?_
        refine wp_seq ?_
        refine wpr ?_
        refine wpl rfl rfl ht (ev_move ht rfl rfl) ?_
        intro a ht
        refine wpl rfl rfl ht (ev_len_rows ht rfl rfl und_52 (hm.rowsOf 0 0 rfl rfl)) ?_
        intro a ht
        refine wpl rfl rfl ht (ev_cmp ht rfl rfl rfl rfl) ?_
        intro a ht
        refine wpl rfl rfl ht (ev_assign ht rfl rfl) ?_
        intro a ht
        refine wpList_nil ?_
        refine then_normal ?_
        refine wp_ret ?_
        have hres := ht.res (P := Try.prog) (w := w) (rs := [.tmp 2]) (vs := [.bool (decide ((t13.length : Int) = 0))]) (.tmp rfl .nil)
        obtain rfl := Option.some.inj H
        exact leave ht rfl hres ⟨rfl, ((hm.pick [] rfl (by decide)).pickφ [] rfl).post fun _ h => h⟩
  · replace H := ite_no h4 H
    refine wph_pass (i := 5) rfl (by kernel_rfl) (by kernel_rfl) (by kernel_rfl) (fun _ _ _ h => h) rfl ht hS (wanted_no rfl ht rfl (by rw [(not_f (Bool.eq_false_iff.mpr h4))]; decide)) ?_
    intro a ht
    refine wph_pass (i := 6) rfl (by kernel_rfl) (by kernel_rfl) (by kernel_rfl) (fun _ _ _ h => h) rfl ht hS (wanted_no rfl ht rfl (by rw [(not_f (Bool.eq_false_iff.mpr h4))]; decide)) ?_
    intro a ht
    refine wph_pass (i := 7) rfl (by kernel_rfl) (by kernel_rfl) (by kernel_rfl) (fun _ _ _ h => h) rfl ht hS (wanted_no rfl ht rfl (by rw [(not_f (Bool.eq_false_iff.mpr h4))]; decide)) ?_
    intro a ht
    refine wph_pass (i := 8) rfl (by kernel_rfl) (by kernel_rfl) (by kernel_rfl) (fun _ _ _ h => h) rfl ht hS (wanted_no rfl ht rfl (by rw [(not_f (Bool.eq_false_iff.mpr h4))]; decide)) ?_
    intro a ht
    refine wph_pass (i := 9) rfl (by kernel_rfl) (by kernel_rfl) (by kernel_rfl) (fun _ _ _ h => h) rfl ht hS (wanted_no rfl ht rfl (by rw [(not_f (Bool.eq_false_iff.mpr h4))]; decide)) ?_
    intro a ht
    refine wph_pass (i := 10) rfl (by kernel_rfl) (by kernel_rfl) (by kernel_rfl) (fun _ _ _ h => h) rfl ht hS (wanted_no rfl ht rfl (by rw [(not_f (Bool.eq_false_iff.mpr h4))]; decide)) ?_
    intro a ht
    refine wph_take (i := 11) rfl (by kernel_rfl) (by kernel_rfl) (by kernel_rfl) (fun _ _ _ h => h) rfl ht hS (wanted_plain rfl) (fun w hm => ev_pick_yes ht rfl rfl (not_f (Bool.eq_false_iff.mpr h4)) rfl) ?_
    intro a ht
    refine wph_done (by kernel_rfl) ?_
    refine then_normal ?_
    refine wpc_yes ht rfl rfl ?_
    refine wp_seq ?_
    refine wpr ?_
    refine wpl rfl rfl ht (ev_assign ht rfl rfl) ?_
    intro a ht
    refine wpList_nil ?_
    refine then_normal ?_
    refine wp_ret ?_
    refine then_ret ?_
    have hres := ht.res (P := Try.prog) (w := w) (rs := [.tmp 2]) (vs := [.bool false]) (.tmp rfl .nil)
    obtain rfl := Option.some.inj H
    exact leave ht rfl hres ⟨rfl, ((hm.pick [] rfl (by decide)).pickφ [] rfl).post fun _ h => h⟩

/-! ### impl_position_code__always: function 46 ((loop.example/g01362/impl.position).code) -/
def impl_position_code__always.f (k : Nat) (p : Int) (p2 : List Int) : Option (Int) := (impl_position_isShape.f k p p2).bind fun t2 => if t2 = true then ((impl_always.f ).bind fun t4 => if t4 = true then ((impl_position_isPosition.f k p p2).bind fun t6 => if t6 = true then (some 0) else (some 1)) else (some 2)) else (some 2)
set_option maxRecDepth 100000 in
set_option maxHeartbeats 1000000 in
theorem impl_position_code__always.calls (k : Nat) (X : List Nat) (w0 : World) (A : Option Addr) (c : Nat) (m : Nat) (p : Int) (p2 : List Int) (r : Int)
    (hp : Pre X w0 [] [IntsAt A c m p2]) (H : impl_position_code__always.f k p p2 = some r) :
    Calls Try.prog 46 [.agg [.int .i64 p, .slice A m c].toArray, .func (.func 47) #[] #[]].toArray w0 (Ret fun v w => v = .int .i64 r ∧ Post X (fps []) w0 [] [] w) := by
  unfold impl_position_code__always.f at H
  refine enterM (n := 18) hp Try.func46 rfl rfl (Nat.le_of_ble_eq_true rfl) fun a w ht hm => ?_
  refine wp_seq ?_
  refine wpr ?_
  refine wpl_box rfl rfl ht hm rfl rfl rfl ?_
  intro b1 a ht w hm
  refine wpl rfl rfl ht (ev_assign ht rfl rfl) ?_
  intro a ht
  refine wpList_nil ?_
  refine then_normal ?_
  refine wp_seq ?_
  refine wp_block ?_
  refine wp_seq ?_
  refine wpr ?_
  refine wpl rfl rfl ht (ev_load_agg (xs := [.int .i64 p, .slice A m c]) ht rfl rfl ag_35 (hm.blk_all 0 rfl)) ?_
  intro a ht
  obtain ⟨t2, et2, H⟩ := bind_get H
  have hcall := impl_position_isShape.calls k _ _ A c m p p2 _ ((fun (hq : Ms _ _ _ ([] ++ [.blk b1 35 [.int .i64 p, .slice A m c]]) _ _) => hq.lend (φp := [IntsAt A c m p2]) (allRO_cons (hq.lendFact 0 rfl) (allRO_nil))) (hm.pick (own' := [] ++ [.blk b1 35 [.int .i64 p, .slice A m c]]) [0] rfl (by decide))) et2
  refine wpl_call _ rfl rfl ht rfl rfl rfl rfl can_39 hcall ?_
  clear hcall
  rintro _ w ⟨rfl, hpost⟩ a ht
  replace hm := (hm.pick (own' := [] ++ [.blk b1 35 [.int .i64 p, .slice A m c]]) [0] rfl (by decide)).backL hpost
  clear hpost
  refine wpl rfl rfl ht (ev_not ht rfl rfl) ?_
  intro a ht
  refine wpl rfl rfl ht (ev_move ht rfl rfl) ?_
  intro a ht
  by_cases h3 : t2 = true
  · replace H := ite_yes h3 H
    refine wpl_yes rfl ht rfl ((not_t h3)) ?_
    refine wpl rfl rfl ht (ev_move ht rfl rfl) ?_
    intro a ht
    refine wpl_yes rfl ht rfl ((not_t h3)) ?_
    obtain ⟨t4, et4, H⟩ := bind_get H
    have hcall := impl_always.calls _ _ _ ((fun (hq : Ms _ _ _ ([] ++ [.blk b1 35 [.int .i64 p, .slice A m c]]) _ _) => hq.lend (φp := []) (allRO_nil)) (hm.pick (own' := [] ++ [.blk b1 35 [.int .i64 p, .slice A m c]]) [0] rfl (by decide))) et4
    refine wpl_call _ rfl rfl ht rfl rfl rfl rfl can_47 hcall ?_
    clear hcall
    rintro _ w ⟨rfl, hpost⟩ a ht
    replace hm := (hm.pick (own' := [] ++ [.blk b1 35 [.int .i64 p, .slice A m c]]) [0] rfl (by decide)).backL hpost
    clear hpost
    refine wpl_yes rfl ht rfl ((not_t h3)) ?_
    refine wpl rfl rfl ht (ev_not ht rfl rfl) ?_
    intro a ht
    refine wpl rfl rfl ht (ev_pick_no ht rfl rfl (not_t h3) rfl) ?_
    intro a ht
    refine wpl rfl rfl ht (ev_assign ht rfl rfl) ?_
    intro a ht
    refine wpList_nil ?_
    refine then_normal ?_
    by_cases h5 : t4 = true
    · replace H := ite_yes h5 H
      refine wpc_no ht rfl (not_t h5) ?_
      refine wp_seq ?_
      refine wpr ?_
      refine wpl rfl rfl ht (ev_load_agg (xs := [.int .i64 p, .slice A m c]) ht rfl rfl ag_35 (hm.blk_all 0 rfl)) ?_
      intro a ht
      obtain ⟨t6, et6, H⟩ := bind_get H
      have hcall := impl_position_isPosition.calls k _ _ A c m p p2 _ ((fun (hq : Ms _ _ _ ([] ++ [.blk b1 35 [.int .i64 p, .slice A m c]]) _ _) => hq.lend (φp := [IntsAt A c m p2]) (allRO_cons (hq.lendFact 0 rfl) (allRO_nil))) (hm.pick (own' := [] ++ [.blk b1 35 [.int .i64 p, .slice A m c]]) [0] rfl (by decide))) et6
      refine wpl_call _ rfl rfl ht rfl rfl rfl rfl can_40 hcall ?_
      clear hcall
      rintro _ w ⟨rfl, hpost⟩ a ht
      replace hm := (hm.pick (own' := [] ++ [.blk b1 35 [.int .i64 p, .slice A m c]]) [0] rfl (by decide)).backL hpost
      clear hpost
      refine wpl rfl rfl ht (ev_not ht rfl rfl) ?_
      intro a ht
      refine wpl rfl rfl ht (ev_assign ht rfl rfl) ?_
      intro a ht
      refine wpList_nil ?_
      refine then_normal ?_
      by_cases h7 : t6 = true
      · replace H := ite_yes h7 H
        refine wpc_no ht rfl (not_t h7) ?_
        refine wp_skip ?_
        refine blk_normal ?_
        refine then_normal ?_
        refine wp_seq ?_
        refine wpr ?_
        refine wpl rfl rfl ht (ev_assign ht rfl rfl) ?_
        intro a ht
        refine wpList_nil ?_
        refine then_normal ?_
        refine wp_ret ?_
        have hres := ht.res (P := Try.prog) (w := w) (rs := [.tmp 4]) (vs := [.int .i64 0]) (.tmp rfl .nil)
        obtain rfl := Option.some.inj H
        exact leave ht rfl hres ⟨rfl, ((hm.pick [] rfl (by decide)).pickφ [] rfl).post fun _ h => h⟩
      · replace H := ite_no h7 H
        refine wpc_yes ht rfl (not_f (Bool.eq_false_iff.mpr h7)) ?_
        refine wp_seq ?_
        refine wpr ?_
        refine wpl rfl rfl ht (ev_assign ht rfl rfl) ?_
        intro a ht
        refine wpList_nil ?_
        refine then_normal ?_
        refine wp_ret ?_
        refine blk_ret ?_
        refine then_ret ?_
        have hres := ht.res (P := Try.prog) (w := w) (rs := [.tmp 4]) (vs := [.int .i64 1]) (.tmp rfl .nil)
        obtain rfl := Option.some.inj H
        exact leave ht rfl hres ⟨rfl, ((hm.pick [] rfl (by decide)).pickφ [] rfl).post fun _ h => h⟩
    · replace H := ite_no h5 H
      refine wpc_yes ht rfl (not_f (Bool.eq_false_iff.mpr h5)) ?_
      refine wp_seq ?_
      refine wpr ?_
      refine wpl rfl rfl ht (ev_assign ht rfl rfl) ?_
      intro a ht
      refine wpList_nil ?_
      refine then_normal ?_
      refine wp_ret ?_
      refine blk_ret ?_
      refine then_ret ?_
      have hres := ht.res (P := Try.prog) (w := w) (rs := [.tmp 4]) (vs := [.int .i64 2]) (.tmp rfl .nil)
      obtain rfl := Option.some.inj H
      exact leave ht rfl hres ⟨rfl, ((hm.pick [] rfl (by decide)).pickφ [] rfl).post fun _ h => h⟩
  · replace H := ite_no h3 H
    refine wpl_no rfl rfl ht rfl (by rw [(not_f (Bool.eq_false_iff.mpr h3))]; decide) ?_
    intro a ht
    refine wpl_no rfl rfl ht rfl (by rw [(not_f (Bool.eq_false_iff.mpr h3))]; decide) ?_
    intro a ht
    refine wpl_no rfl rfl ht rfl (by rw [(not_f (Bool.eq_false_iff.mpr h3))]; decide) ?_
    intro a ht
    refine wpl rfl rfl ht (ev_pick_yes ht rfl rfl (not_f (Bool.eq_false_iff.mpr h3)) rfl) ?_
    intro a ht
    refine wpl rfl rfl ht (ev_assign ht rfl rfl) ?_
    intro a ht
    refine wpList_nil ?_
    refine then_normal ?_
    refine wpc_yes ht rfl rfl ?_
    refine wp_seq ?_
    refine wpr ?_
    refine wpl rfl rfl ht (ev_assign ht rfl rfl) ?_
    intro a ht
    refine wpList_nil ?_
    refine then_normal ?_
    refine wp_ret ?_
    refine blk_ret ?_
    refine then_ret ?_
    have hres := ht.res (P := Try.prog) (w := w) (rs := [.tmp 4]) (vs := [.int .i64 2]) (.tmp rfl .nil)
    obtain rfl := Option.some.inj H
    exact leave ht rfl hres ⟨rfl, ((hm.pick [] rfl (by decide)).pickφ [] rfl).post fun _ h => h⟩

/-! ### impl_position_result: function 48 ((loop.example/g01362/impl.position).result) -/
def impl_position_result.f (k : Nat) (p : Int) (p2 : List Int) : Option (Int) := (impl_position_mover.f k p p2).bind fun t2 => (impl_position_triangles.f k p p2 (w64 (1 - t2))).bind fun t3 => if (t3.length : Int) > 0 then ((impl_position_mover.f k p p2).bind fun t9 => some t9) else ((impl_position_many.f k p p2 (-1)).bind fun t10 => if t10 = 0 then (some 2) else (some (-1)))
set_option maxRecDepth 100000 in
set_option maxHeartbeats 1000000 in
theorem impl_position_result.calls (k : Nat) (X : List Nat) (w0 : World) (A : Option Addr) (c : Nat) (m : Nat) (p : Int) (p2 : List Int) (r : Int)
    (hp : Pre X w0 [] [IntsAt A c m p2]) (H : impl_position_result.f k p p2 = some r) :
    Calls Try.prog 48 [.agg [.int .i64 p, .slice A m c].toArray].toArray w0 (Ret fun v w => v = .int .i64 r ∧ Post X (fps []) w0 [] [] w) := by
  unfold impl_position_result.f at H
  refine enterM (n := 17) hp Try.func48 rfl rfl (Nat.le_of_ble_eq_true rfl) fun a w ht hm => ?_
  refine wp_seq ?_
  refine wpr ?_
  refine wpl_box rfl rfl ht hm rfl rfl rfl ?_
  intro b1 a ht w hm
  refine wpl rfl rfl ht (ev_assign ht rfl rfl) ?_
  intro a ht
  refine wpList_nil ?_
  refine then_normal ?_
  refine wp_seq ?_
  refine wp_block ?_
  refine wp_seq ?_
  refine wph_begin (fun w => Ms X (fps []) w0 [.blk b1 35 [.int .i64 p, .slice A m c]] [IntsAt A c m p2] w) mixed ?_
  replace hm := hm.drew
  have hS : Ms X (fps []) w0 [.blk b1 35 [.int .i64 p, .slice A m c]] [IntsAt A c m p2] w.drew := (hm.pick [0] rfl (by decide)).pickφ [0] rfl
  generalize w.drew = w at hm hS ⊢
  refine wph_take (i := 0) rfl (by kernel_rfl) (by kernel_rfl) (by kernel_rfl) (fun _ _ _ h => h) rfl ht hS (wanted_plain rfl) (fun w hm => ev_load_agg (xs := [.int .i64 p, .slice A m c]) ht rfl rfl ag_35 (hm.blk_all 0 rfl)) ?_
  intro a ht
  refine wph_take (i := 1) rfl (by kernel_rfl) (by kernel_rfl) (by kernel_rfl) (fun _ _ _ h => h) rfl ht hS (wanted_plain rfl) (fun w hm => ev_load_agg (xs := [.int .i64 p, .slice A m c]) ht rfl rfl ag_35 (hm.blk_all 0 rfl)) ?_
  intro a ht
  refine wph_one (i := 2) (by kernel_rfl) (wph_step rfl ?_)
  obtain ⟨t2, et2, H⟩ := bind_get H
  have hcall := impl_position_mover.calls k _ _ A c m p p2 _ ((fun (hq : Ms _ _ _ ([] ++ [.blk b1 35 [.int .i64 p, .slice A m c]]) _ _) => hq.lend (φp := [IntsAt A c m p2]) (allRO_cons (hq.lendFact 0 rfl) (allRO_nil))) (hm.pick (own' := [] ++ [.blk b1 35 [.int .i64 p, .slice A m c]]) [0] rfl (by decide))) et2
  refine wpl_call _ rfl rfl ht rfl rfl rfl rfl can_52 hcall ?_
  clear hcall
  rintro _ w ⟨rfl, hpost⟩ a ht
  replace hm := (hm.pick (own' := [] ++ [.blk b1 35 [.int .i64 p, .slice A m c]]) [0] rfl (by decide)).backL hpost
  clear hpost
  have hS : Ms X (fps []) w0 [.blk b1 35 [.int .i64 p, .slice A m c]] [IntsAt A c m p2] w := (hm.pick [0] rfl (by decide)).pickφ [0] rfl
  refine wpList_nil (qn ⟨hS, ?_⟩)
  refine wph_take (i := 3) rfl (by kernel_rfl) (by kernel_rfl) (by kernel_rfl) (fun _ _ _ h => h) rfl ht hS (wanted_plain rfl) (fun w hm => ev_arith ht rfl rfl rfl rfl) ?_
  intro a ht
  refine wph_one (i := 4) (by kernel_rfl) (wph_step rfl ?_)
  obtain ⟨t3, et3, H⟩ := bind_get H
  have hcall := impl_position_triangles.calls k _ _ A c m p p2 (w64 (1 - t2)) _ ((hm.pick (own' := [] ++ [.blk b1 35 [.int .i64 p, .slice A m c]]) [0] rfl (by decide)).give (passed := []) (rest := [.blk b1 35 [.int .i64 p, .slice A m c]]) (φp := [IntsAt A c m p2]) [0] rfl) et3
  refine wpl_call _ rfl rfl ht rfl rfl rfl rfl can_62 hcall ?_
  clear hcall
  rintro _ w ⟨A4, c5, m6, vs7, rfl, hpost⟩ a ht
  replace hm := (hm.pick (own' := [] ++ [.blk b1 35 [.int .i64 p, .slice A m c]]) [0] rfl (by decide)).back hpost
  clear hpost
  have hS : Ms X (fps []) w0 [.blk b1 35 [.int .i64 p, .slice A m c]] [IntsAt A c m p2] w := (hm.pick [1] rfl (by decide)).pickφ [1] rfl
  refine wpList_nil (qn ⟨hS, ?_⟩)
  refine wph_one (i := 5) (by kernel_rfl) (wph_step rfl ?_)
  refine wpl rfl rfl ht (ev_len_rows ht rfl rfl und_52 (hm.rowsOf 0 0 rfl rfl)) ?_
  intro a ht
  have hS : Ms X (fps []) w0 [.blk b1 35 [.int .i64 p, .slice A m c]] [IntsAt A c m p2] w := (hm.pick [1] rfl (by decide)).pickφ [1] rfl
  refine wpList_nil (qn ⟨hS, ?_⟩)
  refine wph_take (i := 6) rfl (by kernel_rfl) (by kernel_rfl) (by kernel_rfl) (fun _ _ _ h => h) rfl ht hS (wanted_plain rfl) (fun w hm => ev_cmp ht rfl rfl rfl rfl) ?_
  intro a ht
  refine wph_take (i := 7) rfl (by kernel_rfl) (by kernel_rfl) (by kernel_rfl) (fun _ _ _ h => h) rfl ht hS (wanted_plain rfl) (fun w hm => ev_assign ht rfl rfl) ?_
  intro a ht
  refine wph_done (by kernel_rfl) ?_
  refine then_normal ?_
  by_cases h8 : (t3.length : Int) > 0
  · replace H := ite_yes h8 H
    refine wpc_yes ht rfl (decide_eq_true h8) ?_
    refine wp_seq ?_
    refine wpr ?_
    refine wpl rfl rfl ht (ev_load_agg (xs := [.int .i64 p, .slice A m c]) ht rfl rfl ag_35 (hm.blk_all 1 rfl)) ?_
    intro a ht
    obtain ⟨t9, et9, H⟩ := bind_get H
    have hcall := impl_position_mover.calls k _ _ A c m p p2 _ ((fun (hq : Ms _ _ _ ([] ++ [.vec A4 c5 22 1 m6 vs7, .blk b1 35 [.int .i64 p, .slice A m c]]) _ _) => hq.lend (φp := [IntsAt A c m p2]) (allRO_cons (hq.lendFact 1 rfl) (allRO_nil))) (hm.pick (own' := [] ++ [.vec A4 c5 22 1 m6 vs7, .blk b1 35 [.int .i64 p, .slice A m c]]) [0, 1] rfl (by decide))) et9
    refine wpl_call _ rfl rfl ht rfl rfl rfl rfl can_52 hcall ?_
    clear hcall
    rintro _ w ⟨rfl, hpost⟩ a ht
    replace hm := (hm.pick (own' := [] ++ [.vec A4 c5 22 1 m6 vs7, .blk b1 35 [.int .i64 p, .slice A m c]]) [0, 1] rfl (by decide)).backL hpost
    clear hpost
    refine wpl rfl rfl ht (ev_assign ht rfl rfl) ?_
    intro a ht
    refine wpList_nil ?_
    refine then_normal ?_
    refine wp_ret ?_
    refine blk_ret ?_
    refine then_ret ?_
    have hres := ht.res (P := Try.prog) (w := w) (rs := [.tmp 2]) (vs := [.int .i64 t9]) (.tmp rfl .nil)
    obtain rfl := Option.some.inj H
    exact leave ht rfl hres ⟨rfl, ((hm.pick [] rfl (by decide)).pickφ [] rfl).post fun _ h => h⟩
  · replace H := ite_no h8 H
    refine wpc_no ht rfl (decide_eq_false h8) ?_
    refine wp_seq ?_
    refine wpr ?_
    refine wpl rfl rfl ht (ev_load_agg (xs := [.int .i64 p, .slice A m c]) ht rfl rfl ag_35 (hm.blk_all 1 rfl)) ?_
    intro a ht
    obtain ⟨t10, et10, H⟩ := bind_get H
    have hcall := impl_position_many.calls k _ _ A c m p p2 (-1) _ ((fun (hq : Ms _ _ _ ([] ++ [.vec A4 c5 22 1 m6 vs7, .blk b1 35 [.int .i64 p, .slice A m c]]) _ _) => hq.lend (φp := [IntsAt A c m p2]) (allRO_cons (hq.lendFact 1 rfl) (allRO_nil))) (hm.pick (own' := [] ++ [.vec A4 c5 22 1 m6 vs7, .blk b1 35 [.int .i64 p, .slice A m c]]) [0, 1] rfl (by decide))) et10
    refine wpl_call _ rfl rfl ht rfl rfl rfl rfl can_76 hcall ?_
    clear hcall
    rintro _ w ⟨rfl, hpost⟩ a ht
    replace hm := (hm.pick (own' := [] ++ [.vec A4 c5 22 1 m6 vs7, .blk b1 35 [.int .i64 p, .slice A m c]]) [0, 1] rfl (by decide)).backL hpost
    clear hpost
    refine wpl rfl rfl ht (ev_cmp ht rfl rfl rfl rfl) ?_
    intro a ht
    refine wpl rfl rfl ht (ev_assign ht rfl rfl) ?_
    intro a ht
    refine wpList_nil ?_
    refine then_normal ?_
    by_cases h11 : t10 = 0
    · replace H := ite_yes h11 H
      refine wpc_yes ht rfl (decide_eq_true h11) ?_
      refine wp_seq ?_
      refine wpr ?_
      refine wpl rfl rfl ht (ev_assign ht rfl rfl) ?_
      intro a ht
      refine wpList_nil ?_
      refine then_normal ?_
      refine wp_ret ?_
      refine blk_ret ?_
      refine then_ret ?_
      have hres := ht.res (P := Try.prog) (w := w) (rs := [.tmp 2]) (vs := [.int .i64 2]) (.tmp rfl .nil)
      obtain rfl := Option.some.inj H
      exact leave ht rfl hres ⟨rfl, ((hm.pick [] rfl (by decide)).pickφ [] rfl).post fun _ h => h⟩
    · replace H := ite_no h11 H
      refine wpc_no ht rfl (decide_eq_false h11) ?_
      refine wp_skip ?_
      refine blk_normal ?_
      refine then_normal ?_
      refine wp_seq ?_
      refine wpr ?_
      refine wpl rfl rfl ht (ev_assign ht rfl rfl) ?_
      intro a ht
      refine wpList_nil ?_
      refine then_normal ?_
      refine wp_ret ?_
      have hres := ht.res (P := Try.prog) (w := w) (rs := [.tmp 2]) (vs := [.int .i64 (-1)]) (.tmp rfl .nil)
      obtain rfl := Option.some.inj H
      exact leave ht rfl hres ⟨rfl, ((hm.pick [] rfl (by decide)).pickφ [] rfl).post fun _ h => h⟩

end Go.Proofs.Ytfbdcidedjocdaa.G
