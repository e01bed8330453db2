/- What each Go function computes, as a Lean function, and the proof that it does: written by a program of this session (wip/gen), part 3. -/
import Derived.Test.YtkceneefhbdifaaGFnCircularCounts2
namespace Go.Proofs.Ytkceneefhbdifaa.G
open Go Go.RowKit Go.Proofs.Ytkceneefhbdifaa.K
set_option linter.unusedVariables false
set_option linter.unusedSimpArgs false

/-! ### impl_Colouring_firstOf_1: function 53 ((*loop.example/g01362/impl.Colouring).firstOf$1) -/
def impl_Colouring_firstOf_1.f (list : List Int) (x : Int) (x2 : List Int) : Option (Bool × List Int) := (impl_size_int64.f list).bind fun t2 => if t2 < x then (some (true, x2)) else (some (false, list))
set_option maxRecDepth 100000 in
set_option maxHeartbeats 20000000 in
theorem impl_Colouring_firstOf_1.calls (X : List Nat) (w0 : World) (B : Nat) (A : Option Addr) (c : Nat) (m : Nat) (b : Nat) (b2 : Nat) (A2 : Option Addr) (c2 : Nat) (m2 : Nat) (list : List Int) (x : Int) (x2 : List Int) (r : Bool × List Int)
    (hp : Pre X w0 [.blk b 2 [.int .i64 x], .blk b2 24 [.slice A2 m2 c2]] [OwnAt B 2 A c m list, OwnAt B 2 A2 c2 m2 x2]) (hB : B ≤ w0.heap.size) (H : impl_Colouring_firstOf_1.f list x x2 = some r) :
    Calls Try.prog 53 [.slice A m c, .pointer (some ⟨b, 0, none⟩), .pointer (some ⟨b2, 0, none⟩)].toArray w0 (Ret fun v w => ∃ (B_1_0 : Option Addr) (d_1_0 : Nat) (m_1_0 : Nat), v = .bool r.1 ∧ Post X (fps [.blk b 2 [.int .i64 x], .blk b2 24 [.slice A2 m2 c2]]) w0 [.blk b 2 [.int .i64 x], .blk b2 24 [.slice B_1_0 m_1_0 d_1_0]] [OwnAt B 2 B_1_0 d_1_0 m_1_0 r.2] w) := by
  unfold impl_Colouring_firstOf_1.f at H
  refine enterM (n := 10) hp Try.func53 rfl rfl (Nat.le_of_ble_eq_true rfl) fun a w ht hm => ?_
  refine wp_seq ?_
  refine wpr ?_
  refine wpl rfl rfl ht (ev_assign ht rfl rfl) ?_
  intro a ht
  refine wpList_nil ?_
  refine then_normal ?_
  refine wp_seq ?_
  refine wp_seq ?_
  refine wph_begin (fun w => Ms X (fps [.blk b 2 [.int .i64 x], .blk b2 24 [.slice A2 m2 c2]]) w0 [.blk b 2 [.int .i64 x], .blk b2 24 [.slice A2 m2 c2]] [OwnAt B 2 A c m list, OwnAt B 2 A2 c2 m2 x2] w) mixed ?_
  replace hm := hm.drew
  have hS : Ms X (fps [.blk b 2 [.int .i64 x], .blk b2 24 [.slice A2 m2 c2]]) w0 [.blk b 2 [.int .i64 x], .blk b2 24 [.slice A2 m2 c2]] [OwnAt B 2 A c m list, OwnAt B 2 A2 c2 m2 x2] w.drew := (hm.pick [0, 1] rfl (by decide)).pickφ [0, 1] rfl
  generalize w.drew = w at hm hS ⊢
  refine wph_take (i := 0) rfl (by kernel_rfl) (by kernel_rfl) (by kernel_rfl) (fun _ _ _ h => h) rfl ht hS (wanted_plain rfl) (fun w hm => ev_move ht rfl rfl) ?_
  intro a ht
  refine wph_take (i := 2) rfl (by kernel_rfl) (by kernel_rfl) (by kernel_rfl) (fun _ _ _ h => h) rfl ht hS (wanted_plain rfl) (fun w hm => ev_load ht rfl rfl sc_2 (hm.blk_cell 0 rfl rfl)) ?_
  intro a ht
  refine wph_one (i := 1) (by kernel_rfl) (wph_step rfl ?_)
  replace hm : Ms _ _ _ _ (IntsAt A c m list :: _) w := hm.addφ ((hm.ro (φ := OwnAt B 2 A c m list) 0 rfl).mono fun w h => OwnAt.row h)
  obtain ⟨t2, et2, H⟩ := bind_get H
  have hcall := impl_size_int64.calls _ _ A c m list _ ((fun (hq : Ms _ _ _ ([] ++ [.blk b 2 [.int .i64 x], .blk b2 24 [.slice A2 m2 c2]]) _ _) => hq.lend (φp := [IntsAt A c m list]) (allRO_cons (hq.lendFact 0 rfl) (allRO_nil))) (hm.pick (own' := [] ++ [.blk b 2 [.int .i64 x], .blk b2 24 [.slice A2 m2 c2]]) [0, 1] rfl (by decide))) et2
  refine wpl_call _ rfl rfl ht rfl rfl rfl rfl can_42 hcall ?_
  clear hcall
  rintro _ w ⟨rfl, hpost⟩ a ht
  replace hm := (hm.pick (own' := [] ++ [.blk b 2 [.int .i64 x], .blk b2 24 [.slice A2 m2 c2]]) [0, 1] rfl (by decide)).backL hpost
  clear hpost
  have hS : Ms X (fps [.blk b 2 [.int .i64 x], .blk b2 24 [.slice A2 m2 c2]]) w0 [.blk b 2 [.int .i64 x], .blk b2 24 [.slice A2 m2 c2]] [OwnAt B 2 A c m list, OwnAt B 2 A2 c2 m2 x2] w := (hm.pick [0, 1] rfl (by decide)).pickφ [1, 2] rfl
  refine wpList_nil (qn ⟨hS, ?_⟩)
  refine wph_take (i := 3) rfl (by kernel_rfl) (by kernel_rfl) (by kernel_rfl) (fun _ _ _ h => h) rfl ht hS (wanted_plain rfl) (fun w hm => ev_cmp ht rfl rfl rfl rfl) ?_
  intro a ht
  refine wph_done (by kernel_rfl) ?_
  refine then_normal ?_
  by_cases h3 : t2 < x
  · replace H := ite_yes h3 H
    refine wpc_yes ht rfl (decide_eq_true h3) ?_
    refine wp_seq ?_
    refine wpr ?_
    refine wpl rfl rfl ht (ev_assign ht rfl rfl) ?_
    intro a ht
    refine wpList_nil ?_
    refine then_normal ?_
    refine wp_ret ?_
    refine then_ret ?_
    have hres := ht.res (P := Try.prog) (w := w) (rs := [.tmp 4]) (vs := [.bool true]) (.tmp rfl .nil)
    obtain rfl := Option.some.inj H
    exact leave ht rfl hres ⟨A2, c2, m2, rfl, ((hm.pick [0, 1] rfl (by decide)).pickφ [2] rfl).post fun _ h => h⟩
  · replace H := ite_no h3 H
    refine wpc_no ht rfl (decide_eq_false h3) ?_
    refine wp_skip ?_
    refine then_normal ?_
    refine wp_seq ?_
    refine wpr ?_
    refine wpl rfl rfl ht (ev_move ht rfl rfl) ?_
    intro a ht
    refine wpl_store_blk 1 rfl rfl ht hm rfl rfl rfl sz1_24 rfl rfl rfl ?_
    intro a ht w hm
    refine wpList_nil ?_
    refine then_normal ?_
    refine wp_seq ?_
    refine wpr ?_
    refine wpl rfl rfl ht (ev_assign ht rfl rfl) ?_
    intro a ht
    refine wpList_nil ?_
    refine then_normal ?_
    refine wp_ret ?_
    have hres := ht.res (P := Try.prog) (w := w) (rs := [.tmp 4]) (vs := [.bool false]) (.tmp rfl .nil)
    obtain rfl := Option.some.inj H
    exact leave ht rfl hres ⟨A, c, m, rfl, ((hm.pick [0, 1] rfl (by decide)).pickφ [1] rfl).post fun _ h => h⟩

/-! ### impl_Colouring_at: function 41 ((*loop.example/g01362/impl.Colouring).at) -/
def impl_Colouring_at.f (x : Col) (i : Int) (j : Int) : Option (Int) := (impl_number.f i j).bind fun t1 => (getB 136 x.e t1).bind fun t2 => some (w64 t2)
set_option maxRecDepth 100000 in
set_option maxHeartbeats 20000000 in
theorem impl_Colouring_at.calls (X : List Nat) (w0 : World) (b : Nat) (x : Col) (i : Int) (j : Int) (r : Int)
    (hp : Pre X w0 [.blk b 29 (Col.cells x)] []) (H : impl_Colouring_at.f x i j = some r) :
    Calls Try.prog 41 [.pointer (some ⟨b, 0, none⟩), .int .i64 i, .int .i64 j].toArray w0 (Ret fun v w => v = .int .i64 r ∧ Post X (fps [.blk b 29 (Col.cells x)]) w0 [.blk b 29 (Col.cells x)] [] w) := by
  unfold impl_Colouring_at.f at H
  refine enterM (n := 16) hp Try.func41 rfl rfl (Nat.le_of_ble_eq_true rfl) fun a w ht hm => ?_
  refine wp_seq ?_
  refine wpr ?_
  refine wpl rfl rfl ht (ev_assign ht rfl rfl) ?_
  intro a ht
  refine wpList_nil ?_
  refine then_normal ?_
  refine wp_seq ?_
  refine wph_begin (fun w => Ms X (fps [.blk b 29 (Col.cells x)]) w0 [.blk b 29 (Col.cells x)] [] w) mixed ?_
  replace hm := hm.drew
  have hS : Ms X (fps [.blk b 29 (Col.cells x)]) w0 [.blk b 29 (Col.cells x)] [] w.drew := (hm.pick [0] rfl (by decide)).pickφ [] rfl
  generalize w.drew = w at hm hS ⊢
  refine wph_take (i := 0) rfl (by kernel_rfl) (by kernel_rfl) (by kernel_rfl) (fun _ _ _ h => h) rfl ht hS (wanted_plain rfl) (fun w hm => ev_move ht rfl rfl) ?_
  intro a ht
  refine wph_take (i := 1) rfl (by kernel_rfl) (by kernel_rfl) (by kernel_rfl) (fun _ _ _ h => h) rfl ht hS (wanted_plain rfl) (fun w hm => ev_move ht rfl rfl) ?_
  intro a ht
  refine wph_take (i := 2) rfl (by kernel_rfl) (by kernel_rfl) (by kernel_rfl) (fun _ _ _ h => h) rfl ht hS (wanted_plain rfl) (fun w hm => ev_move ht rfl rfl) ?_
  intro a ht
  refine wph_take (i := 4) rfl (by kernel_rfl) (by kernel_rfl) (by kernel_rfl) (fun _ _ _ h => h) rfl ht hS (wanted_plain rfl) (fun w hm => ev_nilCheck ht rfl rfl) ?_
  intro a ht
  refine wph_take (i := 5) rfl (by kernel_rfl) (by kernel_rfl) (by kernel_rfl) (fun _ _ _ h => h) rfl ht hS (wanted_plain rfl) (fun w hm => ev_fieldAddr ht rfl rfl fo_29_2) ?_
  intro a ht
  refine wph_one (i := 3) (by kernel_rfl) (wph_step rfl ?_)
  obtain ⟨t1, et1, H⟩ := bind_get H
  have hcall := impl_number.calls _ _ i j _ ((fun (hq : Ms _ _ _ ([] ++ [.blk b 29 (Col.cells x)]) _ _) => hq.lend (φp := []) (allRO_nil)) (hm.pick (own' := [] ++ [.blk b 29 (Col.cells x)]) [0] rfl (by decide))) et1
  refine wpl_call _ rfl rfl ht rfl rfl rfl rfl can_55 hcall ?_
  clear hcall
  rintro _ w ⟨rfl, hpost⟩ a ht
  replace hm := (hm.pick (own' := [] ++ [.blk b 29 (Col.cells x)]) [0] rfl (by decide)).backL hpost
  clear hpost
  have hS : Ms X (fps [.blk b 29 (Col.cells x)]) w0 [.blk b 29 (Col.cells x)] [] w := (hm.pick [0] rfl (by decide)).pickφ [] rfl
  refine wpList_nil (qn ⟨hS, ?_⟩)
  obtain ⟨t2, et2, H⟩ := bind_get H
  refine wph_take (i := 6) rfl (by kernel_rfl) (by kernel_rfl) (by kernel_rfl) (fun _ _ _ h => h) rfl ht hS (wanted_plain rfl) (fun w hm => ev_indexAddr_arr ht rfl rfl rfl ar_27 (getB_lo et2) (getB_hi et2)) ?_
  intro a ht
  refine wph_take (i := 7) rfl (by kernel_rfl) (by kernel_rfl) (by kernel_rfl) (fun _ _ _ h => h) rfl ht hS (wanted_plain rfl) (fun w hm => ev_load ht rfl rfl sc_5 (hm.blk_cell 0 rfl (Col.get et2))) ?_
  intro a ht
  refine wph_take (i := 8) rfl (by kernel_rfl) (by kernel_rfl) (by kernel_rfl) (fun _ _ _ h => h) rfl ht hS (wanted_plain rfl) (fun w hm => ev_convert ht rfl rfl und_5 und_2) ?_
  intro a ht
  refine wph_take (i := 9) rfl (by kernel_rfl) (by kernel_rfl) (by kernel_rfl) (fun _ _ _ h => h) rfl ht hS (wanted_plain rfl) (fun w hm => ev_assign ht rfl rfl) ?_
  intro a ht
  refine wph_done (by kernel_rfl) ?_
  refine then_normal ?_
  refine wp_ret ?_
  have hres := ht.res (P := Try.prog) (w := w) (rs := [.tmp 6]) (vs := [.int .i64 (w64 t2)]) (.tmp rfl .nil)
  obtain rfl := Option.some.inj H
  exact leave ht rfl hres ⟨rfl, ((hm.pick [0] rfl (by decide)).pickφ [] rfl).post fun _ h => h⟩

/-! ### impl_Colouring_joins: function 63 ((*loop.example/g01362/impl.Colouring).joins) -/
def impl_Colouring_joins.f (x : Col) (i : Int) (j : Int) (c : Int) : Option (Bool) := if i ≠ j then ((impl_Colouring_at.f x i j).bind fun t2 => some (decide (t2 = c))) else (some false)
set_option maxRecDepth 100000 in
set_option maxHeartbeats 20000000 in
theorem impl_Colouring_joins.calls (X : List Nat) (w0 : World) (b : Nat) (x : Col) (i : Int) (j : Int) (c : Int) (r : Bool)
    (hp : Pre X w0 [.blk b 29 (Col.cells x)] []) (H : impl_Colouring_joins.f x i j c = some r) :
    Calls Try.prog 63 [.pointer (some ⟨b, 0, none⟩), .int .i64 i, .int .i64 j, .int .i64 c].toArray w0 (Ret fun v w => v = .bool r ∧ Post X (fps [.blk b 29 (Col.cells x)]) w0 [.blk b 29 (Col.cells x)] [] w) := by
  unfold impl_Colouring_joins.f at H
  refine enterM (n := 20) hp Try.func63 rfl rfl (Nat.le_of_ble_eq_true rfl) fun a w ht hm => ?_
  refine wp_seq ?_
  refine wpr ?_
  refine wpl rfl rfl ht (ev_assign ht rfl rfl) ?_
  intro a ht
  refine wpList_nil ?_
  refine then_normal ?_
  refine wp_seq ?_
  refine wpr ?_
  refine wpl rfl rfl ht (ev_move ht rfl rfl) ?_
  intro a ht
  refine wpl rfl rfl ht (ev_move ht rfl rfl) ?_
  intro a ht
  refine wpl rfl rfl ht (ev_cmp ht rfl rfl rfl rfl) ?_
  intro a ht
  refine wpl rfl rfl ht (ev_move ht rfl rfl) ?_
  intro a ht
  by_cases h1 : i ≠ j
  · replace H := ite_yes h1 H
    refine wpl_yes rfl ht rfl ((decide_eq_true h1)) ?_
    refine wpl rfl rfl ht (ev_move ht rfl rfl) ?_
    intro a ht
    refine wpl_yes rfl ht rfl ((decide_eq_true h1)) ?_
    refine wpl rfl rfl ht (ev_move ht rfl rfl) ?_
    intro a ht
    refine wpl_yes rfl ht rfl ((decide_eq_true h1)) ?_
    refine wpl rfl rfl ht (ev_move ht rfl rfl) ?_
    intro a ht
    refine wpl_yes rfl ht rfl ((decide_eq_true h1)) ?_
    obtain ⟨t2, et2, H⟩ := bind_get H
    have hcall := impl_Colouring_at.calls _ _ b x i j _ ((fun (hq : Ms _ _ _ ([.blk b 29 (Col.cells x)] ++ []) _ _) => hq.lend (φp := []) (allRO_nil)) (hm.pick (own' := [.blk b 29 (Col.cells x)] ++ []) [0] rfl (by decide))) et2
    refine wpl_call _ rfl rfl ht rfl rfl rfl rfl can_41 hcall ?_
    clear hcall
    rintro _ w ⟨rfl, hpost⟩ a ht
    replace hm := (hm.pick (own' := [.blk b 29 (Col.cells x)] ++ []) [0] rfl (by decide)).backL hpost
    clear hpost
    refine wpl_yes rfl ht rfl ((decide_eq_true h1)) ?_
    refine wpl rfl rfl ht (ev_move ht rfl rfl) ?_
    intro a ht
    refine wpl_yes rfl ht rfl ((decide_eq_true h1)) ?_
    refine wpl rfl rfl ht (ev_cmp ht rfl rfl rfl rfl) ?_
    intro a ht
    refine wpl rfl rfl ht (ev_pick_yes ht rfl rfl (decide_eq_true h1) rfl) ?_
    intro a ht
    refine wpl rfl rfl ht (ev_assign ht rfl rfl) ?_
    intro a ht
    refine wpList_nil ?_
    refine then_normal ?_
    refine wp_ret ?_
    have hres := ht.res (P := Try.prog) (w := w) (rs := [.tmp 8]) (vs := [.bool (decide (t2 = c))]) (.tmp rfl .nil)
    obtain rfl := Option.some.inj H
    exact leave ht rfl hres ⟨rfl, ((hm.pick [0] rfl (by decide)).pickφ [] rfl).post fun _ h => h⟩
  · replace H := ite_no h1 H
    refine wpl_no rfl rfl ht rfl (by rw [(decide_eq_false h1)]; decide) ?_
    intro a ht
    refine wpl_no rfl rfl ht rfl (by rw [(decide_eq_false h1)]; decide) ?_
    intro a ht
    refine wpl_no rfl rfl ht rfl (by rw [(decide_eq_false h1)]; decide) ?_
    intro a ht
    refine wpl_no rfl rfl ht rfl (by rw [(decide_eq_false h1)]; decide) ?_
    intro a ht
    refine wpl_no rfl rfl ht rfl (by rw [(decide_eq_false h1)]; decide) ?_
    intro a ht
    refine wpl_no rfl rfl ht rfl (by rw [(decide_eq_false h1)]; decide) ?_
    intro a ht
    refine wpl rfl rfl ht (ev_pick_no ht rfl rfl (decide_eq_false h1) rfl) ?_
    intro a ht
    refine wpl rfl rfl ht (ev_assign ht rfl rfl) ?_
    intro a ht
    refine wpList_nil ?_
    refine then_normal ?_
    refine wp_ret ?_
    have hres := ht.res (P := Try.prog) (w := w) (rs := [.tmp 8]) (vs := [.bool false]) (.tmp rfl .nil)
    obtain rfl := Option.some.inj H
    exact leave ht rfl hres ⟨rfl, ((hm.pick [0] rfl (by decide)).pickφ [] rfl).post fun _ h => h⟩

/-! ### impl_Colouring_goesWith_1: function 62 ((*loop.example/g01362/impl.Colouring).goesWith$1) -/
def impl_Colouring_goesWith_1.f (i : Int) (x : Col) (x2 : Int) (x3 : Int) : Option (Bool) := (impl_Colouring_joins.f x i x2 x3).bind fun t1 => some !t1
set_option maxRecDepth 100000 in
set_option maxHeartbeats 20000000 in
theorem impl_Colouring_goesWith_1.calls (X : List Nat) (w0 : World) (b : Nat) (b2 : Nat) (b3 : Nat) (b4 : Nat) (i : Int) (x : Col) (x2 : Int) (x3 : Int) (r : Bool)
    (hp : Pre X w0 [.blk b 63 [.pointer (some ⟨b2, 0, none⟩)], .blk b2 29 (Col.cells x), .blk b3 2 [.int .i64 x2], .blk b4 2 [.int .i64 x3]] []) (H : impl_Colouring_goesWith_1.f i x x2 x3 = some r) :
    Calls Try.prog 62 [.int .i64 i, .pointer (some ⟨b, 0, none⟩), .pointer (some ⟨b3, 0, none⟩), .pointer (some ⟨b4, 0, none⟩)].toArray w0 (Ret fun v w => v = .bool r ∧ Post X (fps [.blk b 63 [.pointer (some ⟨b2, 0, none⟩)], .blk b2 29 (Col.cells x), .blk b3 2 [.int .i64 x2], .blk b4 2 [.int .i64 x3]]) w0 [.blk b 63 [.pointer (some ⟨b2, 0, none⟩)], .blk b2 29 (Col.cells x), .blk b3 2 [.int .i64 x2], .blk b4 2 [.int .i64 x3]] [] w) := by
  unfold impl_Colouring_goesWith_1.f at H
  refine enterM (n := 12) hp Try.func62 rfl rfl (Nat.le_of_ble_eq_true rfl) fun a w ht hm => ?_
  refine wp_seq ?_
  refine wpr ?_
  refine wpl rfl rfl ht (ev_assign ht rfl rfl) ?_
  intro a ht
  refine wpList_nil ?_
  refine then_normal ?_
  refine wp_seq ?_
  refine wpr ?_
  refine wpl rfl rfl ht (ev_load ht rfl rfl sc_63 (hm.blk_cell 0 rfl rfl)) ?_
  intro a ht
  refine wpl rfl rfl ht (ev_move ht rfl rfl) ?_
  intro a ht
  refine wpl rfl rfl ht (ev_load ht rfl rfl sc_2 (hm.blk_cell 2 rfl rfl)) ?_
  intro a ht
  refine wpl rfl rfl ht (ev_load ht rfl rfl sc_2 (hm.blk_cell 3 rfl rfl)) ?_
  intro a ht
  obtain ⟨t1, et1, H⟩ := bind_get H
  have hcall := impl_Colouring_joins.calls _ _ b2 x i x2 x3 _ ((fun (hq : Ms _ _ _ ([.blk b2 29 (Col.cells x)] ++ [.blk b 63 [.pointer (some ⟨b2, 0, none⟩)], .blk b3 2 [.int .i64 x2], .blk b4 2 [.int .i64 x3]]) _ _) => hq.lend (φp := []) (allRO_nil)) (hm.pick (own' := [.blk b2 29 (Col.cells x)] ++ [.blk b 63 [.pointer (some ⟨b2, 0, none⟩)], .blk b3 2 [.int .i64 x2], .blk b4 2 [.int .i64 x3]]) [1, 0, 2, 3] rfl (by decide))) et1
  refine wpl_call _ rfl rfl ht rfl rfl rfl rfl can_63 hcall ?_
  clear hcall
  rintro _ w ⟨rfl, hpost⟩ a ht
  replace hm := (hm.pick (own' := [.blk b2 29 (Col.cells x)] ++ [.blk b 63 [.pointer (some ⟨b2, 0, none⟩)], .blk b3 2 [.int .i64 x2], .blk b4 2 [.int .i64 x3]]) [1, 0, 2, 3] rfl (by decide)).backL hpost
  clear hpost
  refine wpl rfl rfl ht (ev_not ht rfl rfl) ?_
  intro a ht
  refine wpl rfl rfl ht (ev_assign ht rfl rfl) ?_
  intro a ht
  refine wpList_nil ?_
  refine then_normal ?_
  refine wp_ret ?_
  have hres := ht.res (P := Try.prog) (w := w) (rs := [.tmp 5]) (vs := [.bool !t1]) (.tmp rfl .nil)
  obtain rfl := Option.some.inj H
  exact leave ht rfl hres ⟨rfl, ((hm.pick [1, 0, 2, 3] rfl (by decide)).pickφ [] rfl).post fun _ h => h⟩

/-! ### slices_IndexFunc_int64_int64__Colouring_goesWith_1: function 56 (slices.IndexFunc[[]int64,int64]) -/
def slices_IndexFunc_int64_int64__Colouring_goesWith_1.l0 : Nat → List Int → Col → Int → Int → Int → Option (Int)
  | 0, _, _, _, _, _ => none
  | q1 + 1, s, f, f2, f3, xs0_1 => if xs0_1 < (s.length : Int) then ((getI s xs0_1).bind fun t3 => (impl_Colouring_goesWith_1.f t3 f f2 f3).bind fun t4 => if t4 = true then (some xs0_1) else (slices_IndexFunc_int64_int64__Colouring_goesWith_1.l0 q1 s f f2 f3 (w64 (xs0_1 + 1)))) else (some (-1))
def slices_IndexFunc_int64_int64__Colouring_goesWith_1.f (k : Nat) (s : List Int) (f : Col) (f2 : Int) (f3 : Int) : Option (Int) := slices_IndexFunc_int64_int64__Colouring_goesWith_1.l0 k s f f2 f3 0
set_option maxRecDepth 100000 in
set_option maxHeartbeats 20000000 in
theorem slices_IndexFunc_int64_int64__Colouring_goesWith_1.calls (k : Nat) (X : List Nat) (w0 : World) (A : Option Addr) (c : Nat) (m : Nat) (b : Nat) (b2 : Nat) (b3 : Nat) (b4 : Nat) (s : List Int) (f : Col) (f2 : Int) (f3 : Int) (r : Int)
    (hp : Pre X w0 [.blk b 63 [.pointer (some ⟨b2, 0, none⟩)], .blk b2 29 (Col.cells f), .blk b3 2 [.int .i64 f2], .blk b4 2 [.int .i64 f3]] [IntsAt A c m s]) (H : slices_IndexFunc_int64_int64__Colouring_goesWith_1.f k s f f2 f3 = some r) :
    Calls Try.prog 56 [.slice A m c, .func (.func 62) [].toArray [.pointer (some ⟨b, 0, none⟩), .pointer (some ⟨b3, 0, none⟩), .pointer (some ⟨b4, 0, none⟩)].toArray].toArray w0 (Ret fun v w => v = .int .i64 r ∧ Post X (fps [.blk b 63 [.pointer (some ⟨b2, 0, none⟩)], .blk b2 29 (Col.cells f), .blk b3 2 [.int .i64 f2], .blk b4 2 [.int .i64 f3]]) w0 [.blk b 63 [.pointer (some ⟨b2, 0, none⟩)], .blk b2 29 (Col.cells f), .blk b3 2 [.int .i64 f2], .blk b4 2 [.int .i64 f3]] [] w) := by
  unfold slices_IndexFunc_int64_int64__Colouring_goesWith_1.f at H
  refine enterM (n := 19) hp Try.func56 rfl rfl (Nat.le_of_ble_eq_true rfl) fun a w ht hm => ?_
  refine wp_seq ?_
  refine wpr ?_
  refine wpl rfl rfl ht (ev_assign ht rfl rfl) ?_
  intro a ht
  refine wpList_nil ?_
  refine then_normal ?_
  refine wp_seq ?_
  refine wp_seq ?_
  refine wpr ?_
  refine wpl rfl rfl ht (ev_move ht rfl rfl) ?_
  intro a ht
  refine wpl rfl rfl ht (ev_len_of ht rfl rfl und_24 (hm.fact (φ := IntsAt A c m s) 0 rfl)) ?_
  intro a ht
  refine wpl rfl rfl ht (ev_move ht rfl rfl) ?_
  intro a ht
  refine wpList_nil ?_
  refine then_normal ?_
  refine wp_block ?_
  refine wpLoop (fun q a w => ∃ (xs0_1 : Int), slices_IndexFunc_int64_int64__Colouring_goesWith_1.l0 q s f f2 f3 xs0_1 = some r ∧ q ≤ k ∧ Tm 19 [(0, .slice A m c), (1, .func (.func 62) [].toArray [.pointer (some ⟨b, 0, none⟩), .pointer (some ⟨b3, 0, none⟩), .pointer (some ⟨b4, 0, none⟩)].toArray), (4, .int .i64 0), (7, .int .i64 (s.length : Int)), (8, .int .i64 xs0_1)] a ∧ Ms X (fps [.blk b 63 [.pointer (some ⟨b2, 0, none⟩)], .blk b2 29 (Col.cells f), .blk b3 2 [.int .i64 f2], .blk b4 2 [.int .i64 f3]]) w0 [.blk b 63 [.pointer (some ⟨b2, 0, none⟩)], .blk b2 29 (Col.cells f), .blk b3 2 [.int .i64 f2], .blk b4 2 [.int .i64 f3]] [IntsAt A c m s] w) (k0 := k) ⟨0, H, Nat.le_refl _, ht.sub ⟨rfl, rfl, rfl, rfl, rfl, trivial⟩, (hm.pick [0, 1, 2, 3] rfl (by decide)).pickφ [0] rfl⟩ ?_
  clear H ht hm
  intro q1 a w hJ
  obtain ⟨xs0_1, H, hqq1, ht, hm⟩ := hJ
  cases q1 with
  | zero => cases H
  | succ q1 =>
  rw [slices_IndexFunc_int64_int64__Colouring_goesWith_1.l0] at H
  refine wp_seq ?_
  refine wpr ?_
  refine wpl rfl rfl ht (ev_cmp ht rfl rfl rfl rfl) ?_
  intro a ht
  refine wpList_nil ?_
  refine then_normal ?_
  refine wp_seq ?_
  by_cases h2 : xs0_1 < (s.length : Int)
  · replace H := ite_yes h2 H
    refine wpc_yes ht rfl (decide_eq_true h2) ?_
    refine wp_skip ?_
    refine then_normal ?_
    refine wp_seq ?_
    refine wp_block ?_
    refine wp_seq ?_
    refine wpr ?_
    refine wpl rfl rfl ht (ev_move ht rfl rfl) ?_
    intro a ht
    refine wpl rfl rfl ht (ev_assign ht rfl rfl) ?_
    intro a ht
    refine wpList_nil ?_
    refine then_normal ?_
    refine wp_seq ?_
    refine wpr ?_
    refine wpl rfl rfl ht (ev_move ht rfl rfl) ?_
    intro a ht
    refine wpl rfl rfl ht (ev_move ht rfl rfl) ?_
    intro a ht
    refine wpl rfl rfl ht (ev_move ht rfl rfl) ?_
    intro a ht
    obtain ⟨t3, et3, H⟩ := bind_get H
    refine wpl rfl rfl ht (ev_index_ints ht rfl rfl rfl so_24 (hm.fact (φ := IntsAt A c m s) 0 rfl) et3) ?_
    intro a ht
    refine wpl rfl rfl ht (ev_load ht rfl rfl sc_2 (RowAt.cell (hm.fact (φ := IntsAt A c m s) 0 rfl) (ints_get et3) rfl)) ?_
    intro a ht
    obtain ⟨t4, et4, H⟩ := bind_get H
    have hcall := impl_Colouring_goesWith_1.calls _ _ b b2 b3 b4 t3 f f2 f3 _ ((fun (hq : Ms _ _ _ ([.blk b 63 [.pointer (some ⟨b2, 0, none⟩)], .blk b2 29 (Col.cells f), .blk b3 2 [.int .i64 f2], .blk b4 2 [.int .i64 f3]] ++ []) _ _) => hq.lend (φp := []) (allRO_nil)) (hm.pick (own' := [.blk b 63 [.pointer (some ⟨b2, 0, none⟩)], .blk b2 29 (Col.cells f), .blk b3 2 [.int .i64 f2], .blk b4 2 [.int .i64 f3]] ++ []) [0, 1, 2, 3] rfl (by decide))) et4
    refine wpl_call _ rfl rfl ht rfl rfl rfl rfl can_62 hcall ?_
    clear hcall
    rintro _ w ⟨rfl, hpost⟩ a ht
    replace hm := (hm.pick (own' := [.blk b 63 [.pointer (some ⟨b2, 0, none⟩)], .blk b2 29 (Col.cells f), .blk b3 2 [.int .i64 f2], .blk b4 2 [.int .i64 f3]] ++ []) [0, 1, 2, 3] rfl (by decide)).backL hpost
    clear hpost
    refine wpList_nil ?_
    refine then_normal ?_
    by_cases h5 : t4 = true
    · replace H := ite_yes h5 H
      refine wpc_yes ht rfl h5 ?_
      refine wp_seq ?_
      refine wpr ?_
      refine wpl rfl rfl ht (ev_move ht rfl rfl) ?_
      intro a ht
      refine wpl rfl rfl ht (ev_assign ht rfl rfl) ?_
      intro a ht
      refine wpList_nil ?_
      refine then_normal ?_
      refine wp_ret ?_
      refine blk_ret ?_
      refine then_ret ?_
      refine then_ret ?_
      refine blk_ret ?_
      refine then_ret ?_
      have hres := ht.res (P := Try.prog) (w := w) (rs := [.tmp 4]) (vs := [.int .i64 xs0_1]) (.tmp rfl .nil)
      obtain rfl := Option.some.inj H
      exact leave ht rfl hres ⟨rfl, ((hm.pick [0, 1, 2, 3] rfl (by decide)).pickφ [] rfl).post fun _ h => h⟩
    · replace H := ite_no h5 H
      refine wpc_no ht rfl (Bool.eq_false_iff.mpr h5) ?_
      refine wp_skip ?_
      refine blk_normal ?_
      refine then_normal ?_
      refine wpr ?_
      refine wpl rfl rfl ht (ev_arith ht rfl rfl rfl rfl) ?_
      intro a ht
      refine wpl rfl rfl ht (ev_move ht rfl rfl) ?_
      intro a ht
      refine wpList_nil ?_
      exact then_normal ⟨q1, by omega, (w64 (xs0_1 + 1)), H, by omega, ht.sub ⟨rfl, rfl, rfl, rfl, rfl, trivial⟩, (hm.pick [0, 1, 2, 3] rfl (by decide)).pickφ [0] rfl⟩
  · replace H := ite_no h2 H
    refine wpc_no ht rfl (decide_eq_false h2) ?_
    refine wp_exit ?_
    refine then_exit ?_
    refine then_exit ?_
    refine blk_hit ?_
    refine then_normal ?_
    refine wp_seq ?_
    refine wpr ?_
    refine wpl rfl rfl ht (ev_assign ht rfl rfl) ?_
    intro a ht
    refine wpList_nil ?_
    refine then_normal ?_
    refine wp_ret ?_
    have hres := ht.res (P := Try.prog) (w := w) (rs := [.tmp 4]) (vs := [.int .i64 (-1)]) (.tmp rfl .nil)
    obtain rfl := Option.some.inj H
    exact leave ht rfl hres ⟨rfl, ((hm.pick [0, 1, 2, 3] rfl (by decide)).pickφ [] rfl).post fun _ h => h⟩

/-! ### slices_ContainsFunc_int64_int64__Colouring_goesWith_1: function 43 (slices.ContainsFunc[[]int64,int64]) -/
def slices_ContainsFunc_int64_int64__Colouring_goesWith_1.f (k : Nat) (s : List Int) (f : Col) (f2 : Int) (f3 : Int) : Option (Bool) := (slices_IndexFunc_int64_int64__Colouring_goesWith_1.f k s f f2 f3).bind fun t1 => some (decide (t1 ≥ 0))
set_option maxRecDepth 100000 in
set_option maxHeartbeats 20000000 in
theorem slices_ContainsFunc_int64_int64__Colouring_goesWith_1.calls (k : Nat) (X : List Nat) (w0 : World) (A : Option Addr) (c : Nat) (m : Nat) (b : Nat) (b2 : Nat) (b3 : Nat) (b4 : Nat) (s : List Int) (f : Col) (f2 : Int) (f3 : Int) (r : Bool)
    (hp : Pre X w0 [.blk b 63 [.pointer (some ⟨b2, 0, none⟩)], .blk b2 29 (Col.cells f), .blk b3 2 [.int .i64 f2], .blk b4 2 [.int .i64 f3]] [IntsAt A c m s]) (H : slices_ContainsFunc_int64_int64__Colouring_goesWith_1.f k s f f2 f3 = some r) :
    Calls Try.prog 43 [.slice A m c, .func (.func 62) [].toArray [.pointer (some ⟨b, 0, none⟩), .pointer (some ⟨b3, 0, none⟩), .pointer (some ⟨b4, 0, none⟩)].toArray].toArray w0 (Ret fun v w => v = .bool r ∧ Post X (fps [.blk b 63 [.pointer (some ⟨b2, 0, none⟩)], .blk b2 29 (Col.cells f), .blk b3 2 [.int .i64 f2], .blk b4 2 [.int .i64 f3]]) w0 [.blk b 63 [.pointer (some ⟨b2, 0, none⟩)], .blk b2 29 (Col.cells f), .blk b3 2 [.int .i64 f2], .blk b4 2 [.int .i64 f3]] [] w) := by
  unfold slices_ContainsFunc_int64_int64__Colouring_goesWith_1.f at H
  refine enterM (n := 9) hp Try.func43 rfl rfl (Nat.le_of_ble_eq_true rfl) fun a w ht hm => ?_
  refine wp_seq ?_
  refine wpr ?_
  refine wpl rfl rfl ht (ev_assign ht rfl rfl) ?_
  intro a ht
  refine wpList_nil ?_
  refine then_normal ?_
  refine wp_seq ?_
  refine wpr ?_
  refine wpl rfl rfl ht (ev_move ht rfl rfl) ?_
  intro a ht
  refine wpl rfl rfl ht (ev_move ht rfl rfl) ?_
  intro a ht
  obtain ⟨t1, et1, H⟩ := bind_get H
  have hcall := slices_IndexFunc_int64_int64__Colouring_goesWith_1.calls k _ _ A c m b b2 b3 b4 s f f2 f3 _ ((fun (hq : Ms _ _ _ ([.blk b 63 [.pointer (some ⟨b2, 0, none⟩)], .blk b2 29 (Col.cells f), .blk b3 2 [.int .i64 f2], .blk b4 2 [.int .i64 f3]] ++ []) _ _) => hq.lend (φp := [IntsAt A c m s]) (allRO_cons (hq.lendFact 0 rfl) (allRO_nil))) (hm.pick (own' := [.blk b 63 [.pointer (some ⟨b2, 0, none⟩)], .blk b2 29 (Col.cells f), .blk b3 2 [.int .i64 f2], .blk b4 2 [.int .i64 f3]] ++ []) [0, 1, 2, 3] rfl (by decide))) et1
  refine wpl_call _ rfl rfl ht rfl rfl rfl rfl can_56 hcall ?_
  clear hcall
  rintro _ w ⟨rfl, hpost⟩ a ht
  replace hm := (hm.pick (own' := [.blk b 63 [.pointer (some ⟨b2, 0, none⟩)], .blk b2 29 (Col.cells f), .blk b3 2 [.int .i64 f2], .blk b4 2 [.int .i64 f3]] ++ []) [0, 1, 2, 3] rfl (by decide)).backL hpost
  clear hpost
  refine wpl rfl rfl ht (ev_cmp ht rfl rfl rfl rfl) ?_
  intro a ht
  refine wpl rfl rfl ht (ev_assign ht rfl rfl) ?_
  intro a ht
  refine wpList_nil ?_
  refine then_normal ?_
  refine wp_ret ?_
  have hres := ht.res (P := Try.prog) (w := w) (rs := [.tmp 4]) (vs := [.bool (decide (t1 ≥ 0))]) (.tmp rfl .nil)
  obtain rfl := Option.some.inj H
  exact leave ht rfl hres ⟨rfl, ((hm.pick [0, 1, 2, 3] rfl (by decide)).pickφ [] rfl).post fun _ h => h⟩

/-! ### impl_Colouring_goesWith: function 60 ((*loop.example/g01362/impl.Colouring).goesWith) -/
def impl_Colouring_goesWith.f (k : Nat) (x : Col) (c : Int) (list : List Int) (p : Int) : Option (Bool) := (slices_ContainsFunc_int64_int64__Colouring_goesWith_1.f k list x p c).bind fun t4 => some !t4
set_option maxRecDepth 100000 in
set_option maxHeartbeats 20000000 in
theorem impl_Colouring_goesWith.calls (k : Nat) (X : List Nat) (w0 : World) (b : Nat) (A : Option Addr) (c2 : Nat) (m : Nat) (x : Col) (c : Int) (list : List Int) (p : Int) (r : Bool)
    (hp : Pre X w0 [.blk b 29 (Col.cells x)] [IntsAt A c2 m list]) (H : impl_Colouring_goesWith.f k x c list p = some r) :
    Calls Try.prog 60 [.pointer (some ⟨b, 0, none⟩), .int .i64 c, .slice A m c2, .int .i64 p].toArray w0 (Ret fun v w => v = .bool r ∧ Post X (fps [.blk b 29 (Col.cells x)]) w0 [.blk b 29 (Col.cells x)] [] w) := by
  unfold impl_Colouring_goesWith.f at H
  refine enterM (n := 13) hp Try.func60 rfl rfl (Nat.le_of_ble_eq_true rfl) fun a w ht hm => ?_
  refine wp_seq ?_
  refine wpr ?_
  refine wpl_box rfl rfl ht hm rfl rfl rfl ?_
  intro b1 a ht w hm
  refine wpl_box rfl rfl ht hm rfl rfl rfl ?_
  intro b2 a ht w hm
  refine wpl_box rfl rfl ht hm rfl rfl rfl ?_
  intro b3 a ht w hm
  refine wpl rfl rfl ht (ev_assign ht rfl rfl) ?_
  intro a ht
  refine wpList_nil ?_
  refine then_normal ?_
  refine wp_seq ?_
  refine wpr ?_
  refine wpl rfl rfl ht (ev_move ht rfl rfl) ?_
  intro a ht
  refine wpl rfl rfl ht (ev_makeFunc ht rfl rfl rfl) ?_
  intro a ht
  obtain ⟨t4, et4, H⟩ := bind_get H
  have hcall := slices_ContainsFunc_int64_int64__Colouring_goesWith_1.calls k _ _ A c2 m b1 b b3 b2 list x p c _ ((fun (hq : Ms _ _ _ ([.blk b1 63 [.pointer (some ⟨b, 0, none⟩)], .blk b 29 (Col.cells x), .blk b3 2 [.int .i64 p], .blk b2 2 [.int .i64 c]] ++ []) _ _) => hq.lend (φp := [IntsAt A c2 m list]) (allRO_cons (hq.lendFact 0 rfl) (allRO_nil))) (hm.pick (own' := [.blk b1 63 [.pointer (some ⟨b, 0, none⟩)], .blk b 29 (Col.cells x), .blk b3 2 [.int .i64 p], .blk b2 2 [.int .i64 c]] ++ []) [2, 3, 0, 1] rfl (by decide))) et4
  refine wpl_call _ rfl rfl ht rfl rfl rfl rfl can_43 hcall ?_
  clear hcall
  rintro _ w ⟨rfl, hpost⟩ a ht
  replace hm := (hm.pick (own' := [.blk b1 63 [.pointer (some ⟨b, 0, none⟩)], .blk b 29 (Col.cells x), .blk b3 2 [.int .i64 p], .blk b2 2 [.int .i64 c]] ++ []) [2, 3, 0, 1] rfl (by decide)).backL hpost
  clear hpost
  refine wpl rfl rfl ht (ev_not ht rfl rfl) ?_
  intro a ht
  refine wpl rfl rfl ht (ev_assign ht rfl rfl) ?_
  intro a ht
  refine wpList_nil ?_
  refine then_normal ?_
  refine wp_ret ?_
  have hres := ht.res (P := Try.prog) (w := w) (rs := [.tmp 8]) (vs := [.bool !t4]) (.tmp rfl .nil)
  obtain rfl := Option.some.inj H
  exact leave ht rfl hres ⟨rfl, ((hm.pick [1] rfl (by decide)).pickφ [] rfl).post fun _ h => h⟩

/-! ### slices_Clone_int64_int64: function 61 (slices.Clone[[]int64,int64]) -/
def slices_Clone_int64_int64.f (s : List Int) : Option (List Int) := (concat ([] : List Int) s).bind fun l6 => some l6
set_option maxRecDepth 100000 in
set_option maxHeartbeats 20000000 in
theorem slices_Clone_int64_int64.calls (X : List Nat) (w0 : World) (A : Option Addr) (c : Nat) (m : Nat) (s : List Int) (r : List Int)
    (hp : Pre X w0 [] [IntsAt A c m s]) (H : slices_Clone_int64_int64.f s = some r) :
    Calls Try.prog 61 [.slice A m c].toArray w0 (Ret fun v w => ∃ (A_0 : Option Addr) (c_0 : Nat) (n_0 : Nat), v = .slice A_0 n_0 c_0 ∧ Post X (fps []) w0 [.vec A_0 c_0 2 1 n_0 (ints r)] [] w) := by
  unfold slices_Clone_int64_int64.f at H
  refine enterM (n := 8) hp Try.func61 rfl rfl (Nat.le_of_ble_eq_true rfl) fun a w ht hm => ?_
  refine wp_seq ?_
  refine wpr ?_
  refine wpl rfl rfl ht (ev_assign ht rfl rfl) ?_
  intro a ht
  refine wpList_nil ?_
  refine then_normal ?_
  refine wp_seq ?_
  refine wp_seq ?_
  refine wpr ?_
  refine wpl rfl rfl ht (ev_move ht rfl rfl) ?_
  intro a ht
  cases A with
  | none =>
    have hnil : s = [] := IntsAt.none (hm.fact (φ := IntsAt none c m s) 0 rfl)
    refine wpl rfl rfl ht (ev_eq_nil_none ht rfl rfl rfl und_24) ?_
    intro a ht
    refine wpList_nil ?_
    refine then_normal ?_
    refine wpc_yes ht rfl rfl ?_
    refine wp_seq ?_
    refine wpr ?_
    refine wpl rfl rfl ht (ev_assign ht rfl rfl) ?_
    intro a ht
    refine wpList_nil ?_
    refine then_normal ?_
    refine wp_ret ?_
    refine then_ret ?_
    have hres := ht.res (P := Try.prog) (w := w) (rs := [.tmp 2]) (vs := [.slice none 0 0]) (.tmp rfl .nil)
    replace hm : Ms _ _ _ (.vec none 0 2 1 0 (ints ([] : List Int)) :: _) _ w := hm.nilVec none 2 1
    obtain rfl : r = [] := by rw [hnil] at H; exact clone_nil H
    exact leave ht rfl hres ⟨none, 0, 0, rfl, ((hm.pick [0] rfl (by decide)).pickφ [] rfl).post fun _ h => h⟩
  | some A =>
    refine wpl rfl rfl ht (ev_eq_nil_some ht rfl rfl rfl und_24) ?_
    intro a ht
    refine wpList_nil ?_
    refine then_normal ?_
    refine wpc_no ht rfl rfl ?_
    refine wp_skip ?_
    refine then_normal ?_
    refine wp_seq ?_
    refine wpr ?_
    refine wpl_build_ints (l := ([] : List Int)) rfl rfl ht hm rfl und_24 zo_2 sz1_2 (by decide) rfl rfl rfl ?_
    intro A2 a ht w hm
    refine wpl rfl rfl ht (ev_move ht rfl rfl) ?_
    intro a ht
    obtain ⟨l6, el6, H⟩ := bind_get H
    refine wpl_concat (r := l6) 0 rfl rfl ht hm rfl ap_24 rfl rfl rfl (hm.fact (φ := IntsAt (some A) c m s) 0 rfl) el6 ?_
    intro A3 c4 m5 a ht w hm
    refine wpl rfl rfl ht (ev_assign ht rfl rfl) ?_
    intro a ht
    refine wpList_nil ?_
    refine then_normal ?_
    refine wp_ret ?_
    have hres := ht.res (P := Try.prog) (w := w) (rs := [.tmp 2]) (vs := [.slice A3 m5 c4]) (.tmp rfl .nil)
    obtain rfl := Option.some.inj H
    exact leave ht rfl hres ⟨A3, c4, m5, rfl, ((hm.pick [0] rfl (by decide)).pickφ [] rfl).post fun _ h => h⟩

end Go.Proofs.Ytkceneefhbdifaa.G
