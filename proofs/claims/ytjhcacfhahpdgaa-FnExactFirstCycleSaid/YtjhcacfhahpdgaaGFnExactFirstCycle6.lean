/- What each Go function computes, as a Lean function, and the proof that it does: written by a program of this session (wip/gen), part 6. -/
import Derived.Test.YtjhcacfhahpdgaaGFnExactFirstCycle5
namespace Go.Proofs.Ytjhcacfhahpdgaa.G
open Go Go.RowKit Go.Proofs.Ytjhcacfhahpdgaa.K
set_option linter.unusedVariables false
set_option linter.unusedSimpArgs false

/-! ### impl_Colouring_patternCode: function 25 ((*loop.example/g01362/impl.Colouring).patternCode) -/
def impl_Colouring_patternCode.f (k : Nat) (x : Col) (c : Int) (right : Bool) : Option (Int) := (impl_Colouring_colourCode.f k x c right).bind fun t1 => if t1 = 0 then (if x.p > 11 then (some 3) else (some t1)) else (some t1)
set_option maxRecDepth 100000 in
set_option maxHeartbeats 1000000 in
theorem impl_Colouring_patternCode.calls (k : Nat) (X : List Nat) (w0 : World) (b : Nat) (x : Col) (c : Int) (right : Bool) (r : Int)
    (hp : Pre X w0 [.blk b 28 (Col.cells x)] []) (H : impl_Colouring_patternCode.f k x c right = some r) :
    Calls Try.prog 25 [.pointer (some ⟨b, 0, none⟩), .int .i64 c, .bool right].toArray w0 (Ret fun v w => v = .int .i64 r ∧ Post X (fps [.blk b 28 (Col.cells x)]) w0 [.blk b 28 (Col.cells x)] [] w) := by
  unfold impl_Colouring_patternCode.f at H
  refine enterM (n := 22) hp Try.func25 rfl rfl (Nat.le_of_ble_eq_true rfl) fun a w ht hm => ?_
  refine wp_seq ?_
  refine wpr ?_
  refine wpl rfl rfl ht (ev_assign ht rfl rfl) ?_
  intro a ht
  refine wpList_nil ?_
  refine then_normal ?_
  refine wp_seq ?_
  refine wpr ?_
  refine wpl rfl rfl ht (ev_move ht rfl rfl) ?_
  intro a ht
  refine wpl rfl rfl ht (ev_move ht rfl rfl) ?_
  intro a ht
  refine wpl rfl rfl ht (ev_move ht rfl rfl) ?_
  intro a ht
  obtain ⟨t1, et1, H⟩ := bind_get H
  have hcall := impl_Colouring_colourCode.calls k _ _ b x c right _ ((fun (hq : Ms _ _ _ ([.blk b 28 (Col.cells x)] ++ []) _ _) => hq.lend (φp := []) (allRO_nil)) (hm.pick (own' := [.blk b 28 (Col.cells x)] ++ []) [0] rfl (by decide))) et1
  refine wpl_call _ rfl rfl ht rfl rfl rfl rfl can_29 hcall ?_
  clear hcall
  rintro _ w ⟨rfl, hpost⟩ a ht
  replace hm := (hm.pick (own' := [.blk b 28 (Col.cells x)] ++ []) [0] rfl (by decide)).backL hpost
  clear hpost
  refine wpl rfl rfl ht (ev_assign ht rfl rfl) ?_
  intro a ht
  refine wpList_nil ?_
  refine then_normal ?_
  refine wp_seq ?_
  refine wp_seq ?_
  refine wpr ?_
  refine wpl rfl rfl ht (ev_move ht rfl rfl) ?_
  intro a ht
  refine wpl rfl rfl ht (ev_cmp ht rfl rfl rfl rfl) ?_
  intro a ht
  refine wpl rfl rfl ht (ev_move ht rfl rfl) ?_
  intro a ht
  by_cases h2 : t1 = 0
  · replace H := ite_yes h2 H
    refine wpl_yes rfl ht rfl ((decide_eq_true h2)) ?_
    refine wpl rfl rfl ht (ev_move ht rfl rfl) ?_
    intro a ht
    refine wpl_yes rfl ht rfl ((decide_eq_true h2)) ?_
    refine wpl rfl rfl ht (ev_nilCheck ht rfl rfl) ?_
    intro a ht
    refine wpl_yes rfl ht rfl ((decide_eq_true h2)) ?_
    refine wpl rfl rfl ht (ev_fieldAddr ht rfl rfl fo_28_0) ?_
    intro a ht
    refine wpl_yes rfl ht rfl ((decide_eq_true h2)) ?_
    refine wpl rfl rfl ht (ev_load ht rfl rfl sc_2 (hm.blk_cell 0 rfl rfl)) ?_
    intro a ht
    refine wpl_yes rfl ht rfl ((decide_eq_true h2)) ?_
    refine wpl rfl rfl ht (ev_cmp ht rfl rfl rfl rfl) ?_
    intro a ht
    refine wpl rfl rfl ht (ev_pick_yes ht rfl rfl (decide_eq_true h2) rfl) ?_
    intro a ht
    refine wpList_nil ?_
    refine then_normal ?_
    by_cases h3 : x.p > 11
    · replace H := ite_yes h3 H
      refine wpc_yes ht rfl (decide_eq_true h3) ?_
      refine wpr ?_
      refine wpl rfl rfl ht (ev_assign ht rfl rfl) ?_
      intro a ht
      refine wpList_nil ?_
      refine then_normal ?_
      refine wp_seq ?_
      refine wpr ?_
      refine wpl rfl rfl ht (ev_move ht rfl rfl) ?_
      intro a ht
      refine wpl rfl rfl ht (ev_assign ht rfl rfl) ?_
      intro a ht
      refine wpList_nil ?_
      refine then_normal ?_
      refine wp_ret ?_
      have hres := ht.res (P := Try.prog) (w := w) (rs := [.tmp 6]) (vs := [.int .i64 3]) (.tmp rfl .nil)
      obtain rfl := Option.some.inj H
      exact leave ht rfl hres ⟨rfl, ((hm.pick [0] rfl (by decide)).pickφ [] rfl).post fun _ h => h⟩
    · replace H := ite_no h3 H
      refine wpc_no ht rfl (decide_eq_false h3) ?_
      refine wp_skip ?_
      refine then_normal ?_
      refine wp_seq ?_
      refine wpr ?_
      refine wpl rfl rfl ht (ev_move ht rfl rfl) ?_
      intro a ht
      refine wpl rfl rfl ht (ev_assign ht rfl rfl) ?_
      intro a ht
      refine wpList_nil ?_
      refine then_normal ?_
      refine wp_ret ?_
      have hres := ht.res (P := Try.prog) (w := w) (rs := [.tmp 6]) (vs := [.int .i64 t1]) (.tmp rfl .nil)
      obtain rfl := Option.some.inj H
      exact leave ht rfl hres ⟨rfl, ((hm.pick [0] rfl (by decide)).pickφ [] rfl).post fun _ h => h⟩
  · replace H := ite_no h2 H
    refine wpl_no rfl rfl ht rfl (by rw [(decide_eq_false h2)]; decide) ?_
    intro a ht
    refine wpl_no rfl rfl ht rfl (by rw [(decide_eq_false h2)]; decide) ?_
    intro a ht
    refine wpl_no rfl rfl ht rfl (by rw [(decide_eq_false h2)]; decide) ?_
    intro a ht
    refine wpl_no rfl rfl ht rfl (by rw [(decide_eq_false h2)]; decide) ?_
    intro a ht
    refine wpl_no rfl rfl ht rfl (by rw [(decide_eq_false h2)]; decide) ?_
    intro a ht
    refine wpl rfl rfl ht (ev_pick_no ht rfl rfl (decide_eq_false h2) rfl) ?_
    intro a ht
    refine wpList_nil ?_
    refine then_normal ?_
    refine wpc_no ht rfl rfl ?_
    refine wp_skip ?_
    refine then_normal ?_
    refine wp_seq ?_
    refine wpr ?_
    refine wpl rfl rfl ht (ev_move ht rfl rfl) ?_
    intro a ht
    refine wpl rfl rfl ht (ev_assign ht rfl rfl) ?_
    intro a ht
    refine wpList_nil ?_
    refine then_normal ?_
    refine wp_ret ?_
    have hres := ht.res (P := Try.prog) (w := w) (rs := [.tmp 6]) (vs := [.int .i64 t1]) (.tmp rfl .nil)
    obtain rfl := Option.some.inj H
    exact leave ht rfl hres ⟨rfl, ((hm.pick [0] rfl (by decide)).pickφ [] rfl).post fun _ h => h⟩

/-! ### impl_size_int64: function 53 (loop.example/g01362/impl.size[int64]) -/
def impl_size_int64.f (list : List Int) : Option (Int) := some (list.length : Int)
set_option maxRecDepth 100000 in
set_option maxHeartbeats 1000000 in
theorem impl_size_int64.calls (X : List Nat) (w0 : World) (A : Option Addr) (c : Nat) (m : Nat) (list : List Int) (r : Int)
    (hp : Pre X w0 [] [IntsAt A c m list]) (H : impl_size_int64.f list = some r) :
    Calls Try.prog 53 [.slice A m c].toArray w0 (Ret fun v w => v = .int .i64 r ∧ Post X (fps []) w0 [] [] w) := by
  unfold impl_size_int64.f at H
  refine enterM (n := 5) hp Try.func53 rfl rfl (Nat.le_of_ble_eq_true rfl) fun a w ht hm => ?_
  refine wp_seq ?_
  refine wpr ?_
  refine wpl rfl rfl ht (ev_assign ht rfl rfl) ?_
  intro a ht
  refine wpList_nil ?_
  refine then_normal ?_
  refine wp_seq ?_
  refine wpr ?_
  refine wpl rfl rfl ht (ev_move ht rfl rfl) ?_
  intro a ht
  refine wpl rfl rfl ht (ev_len_of ht rfl rfl und_25 (hm.fact (φ := IntsAt A c m list) 0 rfl)) ?_
  intro a ht
  refine wpl rfl rfl ht (ev_assign ht rfl rfl) ?_
  intro a ht
  refine wpList_nil ?_
  refine then_normal ?_
  refine wp_ret ?_
  have hres := ht.res (P := Try.prog) (w := w) (rs := [.tmp 2]) (vs := [.int .i64 (list.length : Int)]) (.tmp rfl .nil)
  obtain rfl := Option.some.inj H
  exact leave ht rfl hres ⟨rfl, ((hm.pick [] rfl (by decide)).pickφ [] rfl).post fun _ h => h⟩

/-! ### impl_number: function 63 (loop.example/g01362/impl.number) -/
def impl_number.f (i : Int) (j : Int) : Option (Int) := some (w64 ((w64 (Int.tdiv (w64 ((max i j) * (w64 ((max i j) - 1)))) 2)) + (min i j)))
set_option maxRecDepth 100000 in
set_option maxHeartbeats 1000000 in
theorem impl_number.calls (X : List Nat) (w0 : World)  (i : Int) (j : Int) (r : Int)
    (hp : Pre X w0 [] []) (H : impl_number.f i j = some r) :
    Calls Try.prog 63 [.int .i64 i, .int .i64 j].toArray w0 (Ret fun v w => v = .int .i64 r ∧ Post X (fps []) w0 [] [] w) := by
  unfold impl_number.f at H
  refine enterM (n := 18) hp Try.func63 rfl rfl (Nat.le_of_ble_eq_true rfl) fun a w ht hm => ?_
  refine wp_seq ?_
  refine wpr ?_
  refine wpl rfl rfl ht (ev_assign ht rfl rfl) ?_
  intro a ht
  refine wpList_nil ?_
  refine then_normal ?_
  refine wp_seq ?_
  refine wpr ?_
  refine wpl rfl rfl ht (ev_move ht rfl rfl) ?_
  intro a ht
  refine wpl rfl rfl ht (ev_move ht rfl rfl) ?_
  intro a ht
  refine wpl rfl rfl ht (ev_min ht rfl rfl rfl) ?_
  intro a ht
  refine wpl rfl rfl ht (ev_move ht rfl rfl) ?_
  intro a ht
  refine wpl rfl rfl ht (ev_move ht rfl rfl) ?_
  intro a ht
  refine wpl rfl rfl ht (ev_max ht rfl rfl rfl) ?_
  intro a ht
  refine wpl rfl rfl ht (ev_assign ht rfl rfl) ?_
  intro a ht
  refine wpl rfl rfl ht (ev_assign ht rfl rfl) ?_
  intro a ht
  refine wpList_nil ?_
  refine then_normal ?_
  refine wp_seq ?_
  refine wpr ?_
  refine wpl rfl rfl ht (ev_move ht rfl rfl) ?_
  intro a ht
  refine wpl rfl rfl ht (ev_move ht rfl rfl) ?_
  intro a ht
  refine wpl rfl rfl ht (ev_arith ht rfl rfl rfl rfl) ?_
  intro a ht
  refine wpl rfl rfl ht (ev_arith ht rfl rfl rfl rfl) ?_
  intro a ht
  refine wpl rfl rfl ht (ev_quo ht rfl rfl rfl (by decide)) ?_
  intro a ht
  refine wpl rfl rfl ht (ev_move ht rfl rfl) ?_
  intro a ht
  refine wpl rfl rfl ht (ev_arith ht rfl rfl rfl rfl) ?_
  intro a ht
  refine wpl rfl rfl ht (ev_assign ht rfl rfl) ?_
  intro a ht
  refine wpList_nil ?_
  refine then_normal ?_
  refine wp_ret ?_
  have hres := ht.res (P := Try.prog) (w := w) (rs := [.tmp 4]) (vs := [.int .i64 (w64 ((w64 (Int.tdiv (w64 ((max i j) * (w64 ((max i j) - 1)))) 2)) + (min i j)))]) (.tmp rfl .nil)
  obtain rfl := Option.some.inj H
  exact leave ht rfl hres ⟨rfl, ((hm.pick [] rfl (by decide)).pickφ [] rfl).post fun _ h => h⟩

/-! ### impl_Colouring_at: function 56 ((*loop.example/g01362/impl.Colouring).at) -/
def impl_Colouring_at.f (x : Col) (i : Int) (j : Int) : Option (Int) := (impl_number.f i j).bind fun t1 => (getB 136 x.e t1).bind fun t2 => some (w64 t2)
set_option maxRecDepth 100000 in
set_option maxHeartbeats 1000000 in
theorem impl_Colouring_at.calls (X : List Nat) (w0 : World) (b : Nat) (x : Col) (i : Int) (j : Int) (r : Int)
    (hp : Pre X w0 [.blk b 28 (Col.cells x)] []) (H : impl_Colouring_at.f x i j = some r) :
    Calls Try.prog 56 [.pointer (some ⟨b, 0, none⟩), .int .i64 i, .int .i64 j].toArray w0 (Ret fun v w => v = .int .i64 r ∧ Post X (fps [.blk b 28 (Col.cells x)]) w0 [.blk b 28 (Col.cells x)] [] w) := by
  unfold impl_Colouring_at.f at H
  refine enterM (n := 16) hp Try.func56 rfl rfl (Nat.le_of_ble_eq_true rfl) fun a w ht hm => ?_
  refine wp_seq ?_
  refine wpr ?_
  refine wpl rfl rfl ht (ev_assign ht rfl rfl) ?_
  intro a ht
  refine wpList_nil ?_
  refine then_normal ?_
  refine wp_seq ?_
  refine wph_begin (fun w => Ms X (fps [.blk b 28 (Col.cells x)]) w0 [.blk b 28 (Col.cells x)] [] w) mixed ?_
  replace hm := hm.drew
  have hS : Ms X (fps [.blk b 28 (Col.cells x)]) w0 [.blk b 28 (Col.cells x)] [] w.drew := (hm.pick [0] rfl (by decide)).pickφ [] rfl
  generalize w.drew = w at hm hS ⊢
  refine wph_take (i := 0) rfl (by kernel_rfl) (by kernel_rfl) (by kernel_rfl) (fun _ _ _ h => h) rfl ht hS (wanted_plain rfl) (fun w hm => ev_move ht rfl rfl) ?_
  intro a ht
  refine wph_take (i := 1) rfl (by kernel_rfl) (by kernel_rfl) (by kernel_rfl) (fun _ _ _ h => h) rfl ht hS (wanted_plain rfl) (fun w hm => ev_move ht rfl rfl) ?_
  intro a ht
  refine wph_take (i := 2) rfl (by kernel_rfl) (by kernel_rfl) (by kernel_rfl) (fun _ _ _ h => h) rfl ht hS (wanted_plain rfl) (fun w hm => ev_move ht rfl rfl) ?_
  intro a ht
  refine wph_take (i := 4) rfl (by kernel_rfl) (by kernel_rfl) (by kernel_rfl) (fun _ _ _ h => h) rfl ht hS (wanted_plain rfl) (fun w hm => ev_nilCheck ht rfl rfl) ?_
  intro a ht
  refine wph_take (i := 5) rfl (by kernel_rfl) (by kernel_rfl) (by kernel_rfl) (fun _ _ _ h => h) rfl ht hS (wanted_plain rfl) (fun w hm => ev_fieldAddr ht rfl rfl fo_28_2) ?_
  intro a ht
  refine wph_one (i := 3) (by kernel_rfl) (wph_step rfl ?_)
  obtain ⟨t1, et1, H⟩ := bind_get H
  have hcall := impl_number.calls _ _ i j _ ((fun (hq : Ms _ _ _ ([] ++ [.blk b 28 (Col.cells x)]) _ _) => hq.lend (φp := []) (allRO_nil)) (hm.pick (own' := [] ++ [.blk b 28 (Col.cells x)]) [0] rfl (by decide))) et1
  refine wpl_call _ rfl rfl ht rfl rfl rfl rfl can_63 hcall ?_
  clear hcall
  rintro _ w ⟨rfl, hpost⟩ a ht
  replace hm := (hm.pick (own' := [] ++ [.blk b 28 (Col.cells x)]) [0] rfl (by decide)).backL hpost
  clear hpost
  have hS : Ms X (fps [.blk b 28 (Col.cells x)]) w0 [.blk b 28 (Col.cells x)] [] w := (hm.pick [0] rfl (by decide)).pickφ [] rfl
  refine wpList_nil (qn ⟨hS, ?_⟩)
  obtain ⟨t2, et2, H⟩ := bind_get H
  refine wph_take (i := 6) rfl (by kernel_rfl) (by kernel_rfl) (by kernel_rfl) (fun _ _ _ h => h) rfl ht hS (wanted_plain rfl) (fun w hm => ev_indexAddr_arr ht rfl rfl rfl ar_22 (getB_lo et2) (getB_hi et2)) ?_
  intro a ht
  refine wph_take (i := 7) rfl (by kernel_rfl) (by kernel_rfl) (by kernel_rfl) (fun _ _ _ h => h) rfl ht hS (wanted_plain rfl) (fun w hm => ev_load ht rfl rfl sc_5 (hm.blk_cell 0 rfl (Col.get et2))) ?_
  intro a ht
  refine wph_take (i := 8) rfl (by kernel_rfl) (by kernel_rfl) (by kernel_rfl) (fun _ _ _ h => h) rfl ht hS (wanted_plain rfl) (fun w hm => ev_convert ht rfl rfl und_5 und_2) ?_
  intro a ht
  refine wph_take (i := 9) rfl (by kernel_rfl) (by kernel_rfl) (by kernel_rfl) (fun _ _ _ h => h) rfl ht hS (wanted_plain rfl) (fun w hm => ev_assign ht rfl rfl) ?_
  intro a ht
  refine wph_done (by kernel_rfl) ?_
  refine then_normal ?_
  refine wp_ret ?_
  have hres := ht.res (P := Try.prog) (w := w) (rs := [.tmp 6]) (vs := [.int .i64 (w64 t2)]) (.tmp rfl .nil)
  obtain rfl := Option.some.inj H
  exact leave ht rfl hres ⟨rfl, ((hm.pick [0] rfl (by decide)).pickφ [] rfl).post fun _ h => h⟩

/-! ### impl_Colouring_joins: function 46 ((*loop.example/g01362/impl.Colouring).joins) -/
def impl_Colouring_joins.f (x : Col) (i : Int) (j : Int) (c : Int) : Option (Bool) := if i ≠ j then ((impl_Colouring_at.f x i j).bind fun t2 => some (decide (t2 = c))) else (some false)
set_option maxRecDepth 100000 in
set_option maxHeartbeats 1000000 in
theorem impl_Colouring_joins.calls (X : List Nat) (w0 : World) (b : Nat) (x : Col) (i : Int) (j : Int) (c : Int) (r : Bool)
    (hp : Pre X w0 [.blk b 28 (Col.cells x)] []) (H : impl_Colouring_joins.f x i j c = some r) :
    Calls Try.prog 46 [.pointer (some ⟨b, 0, none⟩), .int .i64 i, .int .i64 j, .int .i64 c].toArray w0 (Ret fun v w => v = .bool r ∧ Post X (fps [.blk b 28 (Col.cells x)]) w0 [.blk b 28 (Col.cells x)] [] w) := by
  unfold impl_Colouring_joins.f at H
  refine enterM (n := 20) hp Try.func46 rfl rfl (Nat.le_of_ble_eq_true rfl) fun a w ht hm => ?_
  refine wp_seq ?_
  refine wpr ?_
  refine wpl rfl rfl ht (ev_assign ht rfl rfl) ?_
  intro a ht
  refine wpList_nil ?_
  refine then_normal ?_
  refine wp_seq ?_
  refine wpr ?_
  refine wpl rfl rfl ht (ev_move ht rfl rfl) ?_
  intro a ht
  refine wpl rfl rfl ht (ev_move ht rfl rfl) ?_
  intro a ht
  refine wpl rfl rfl ht (ev_cmp ht rfl rfl rfl rfl) ?_
  intro a ht
  refine wpl rfl rfl ht (ev_move ht rfl rfl) ?_
  intro a ht
  by_cases h1 : i ≠ j
  · replace H := ite_yes h1 H
    refine wpl_yes rfl ht rfl ((decide_eq_true h1)) ?_
    refine wpl rfl rfl ht (ev_move ht rfl rfl) ?_
    intro a ht
    refine wpl_yes rfl ht rfl ((decide_eq_true h1)) ?_
    refine wpl rfl rfl ht (ev_move ht rfl rfl) ?_
    intro a ht
    refine wpl_yes rfl ht rfl ((decide_eq_true h1)) ?_
    refine wpl rfl rfl ht (ev_move ht rfl rfl) ?_
    intro a ht
    refine wpl_yes rfl ht rfl ((decide_eq_true h1)) ?_
    obtain ⟨t2, et2, H⟩ := bind_get H
    have hcall := impl_Colouring_at.calls _ _ b x i j _ ((fun (hq : Ms _ _ _ ([.blk b 28 (Col.cells x)] ++ []) _ _) => hq.lend (φp := []) (allRO_nil)) (hm.pick (own' := [.blk b 28 (Col.cells x)] ++ []) [0] rfl (by decide))) et2
    refine wpl_call _ rfl rfl ht rfl rfl rfl rfl can_56 hcall ?_
    clear hcall
    rintro _ w ⟨rfl, hpost⟩ a ht
    replace hm := (hm.pick (own' := [.blk b 28 (Col.cells x)] ++ []) [0] rfl (by decide)).backL hpost
    clear hpost
    refine wpl_yes rfl ht rfl ((decide_eq_true h1)) ?_
    refine wpl rfl rfl ht (ev_move ht rfl rfl) ?_
    intro a ht
    refine wpl_yes rfl ht rfl ((decide_eq_true h1)) ?_
    refine wpl rfl rfl ht (ev_cmp ht rfl rfl rfl rfl) ?_
    intro a ht
    refine wpl rfl rfl ht (ev_pick_yes ht rfl rfl (decide_eq_true h1) rfl) ?_
    intro a ht
    refine wpl rfl rfl ht (ev_assign ht rfl rfl) ?_
    intro a ht
    refine wpList_nil ?_
    refine then_normal ?_
    refine wp_ret ?_
    have hres := ht.res (P := Try.prog) (w := w) (rs := [.tmp 8]) (vs := [.bool (decide (t2 = c))]) (.tmp rfl .nil)
    obtain rfl := Option.some.inj H
    exact leave ht rfl hres ⟨rfl, ((hm.pick [0] rfl (by decide)).pickφ [] rfl).post fun _ h => h⟩
  · replace H := ite_no h1 H
    refine wpl_no rfl rfl ht rfl (by rw [(decide_eq_false h1)]; decide) ?_
    intro a ht
    refine wpl_no rfl rfl ht rfl (by rw [(decide_eq_false h1)]; decide) ?_
    intro a ht
    refine wpl_no rfl rfl ht rfl (by rw [(decide_eq_false h1)]; decide) ?_
    intro a ht
    refine wpl_no rfl rfl ht rfl (by rw [(decide_eq_false h1)]; decide) ?_
    intro a ht
    refine wpl_no rfl rfl ht rfl (by rw [(decide_eq_false h1)]; decide) ?_
    intro a ht
    refine wpl_no rfl rfl ht rfl (by rw [(decide_eq_false h1)]; decide) ?_
    intro a ht
    refine wpl rfl rfl ht (ev_pick_no ht rfl rfl (decide_eq_false h1) rfl) ?_
    intro a ht
    refine wpl rfl rfl ht (ev_assign ht rfl rfl) ?_
    intro a ht
    refine wpList_nil ?_
    refine then_normal ?_
    refine wp_ret ?_
    have hres := ht.res (P := Try.prog) (w := w) (rs := [.tmp 8]) (vs := [.bool false]) (.tmp rfl .nil)
    obtain rfl := Option.some.inj H
    exact leave ht rfl hres ⟨rfl, ((hm.pick [0] rfl (by decide)).pickφ [] rfl).post fun _ h => h⟩

/-! ### slices_Index_int64_int64: function 61 (slices.Index[[]int64,int64]) -/
def slices_Index_int64_int64.l0 : Nat → List Int → Int → Int → Option (Int)
  | 0, _, _, _ => none
  | q1 + 1, s, v, xs0_1 => if xs0_1 < (s.length : Int) then ((getI s xs0_1).bind fun t3 => if v = t3 then (some xs0_1) else (slices_Index_int64_int64.l0 q1 s v (w64 (xs0_1 + 1)))) else (some (-1))
def slices_Index_int64_int64.f (k : Nat) (s : List Int) (v : Int) : Option (Int) := slices_Index_int64_int64.l0 k s v 0
set_option maxRecDepth 100000 in
set_option maxHeartbeats 1000000 in
theorem slices_Index_int64_int64.calls (k : Nat) (X : List Nat) (w0 : World) (A : Option Addr) (c : Nat) (m : Nat) (s : List Int) (v : Int) (r : Int)
    (hp : Pre X w0 [] [IntsAt A c m s]) (H : slices_Index_int64_int64.f k s v = some r) :
    Calls Try.prog 61 [.slice A m c, .int .i64 v].toArray w0 (Ret fun v w => v = .int .i64 r ∧ Post X (fps []) w0 [] [] w) := by
  unfold slices_Index_int64_int64.f at H
  refine enterM (n := 19) hp Try.func61 rfl rfl (Nat.le_of_ble_eq_true rfl) fun a w ht hm => ?_
  refine wp_seq ?_
  refine wpr ?_
  refine wpl rfl rfl ht (ev_assign ht rfl rfl) ?_
  intro a ht
  refine wpList_nil ?_
  refine then_normal ?_
  refine wp_seq ?_
  refine wp_seq ?_
  refine wpr ?_
  refine wpl rfl rfl ht (ev_move ht rfl rfl) ?_
  intro a ht
  refine wpl rfl rfl ht (ev_len_of ht rfl rfl und_25 (hm.fact (φ := IntsAt A c m s) 0 rfl)) ?_
  intro a ht
  refine wpl rfl rfl ht (ev_move ht rfl rfl) ?_
  intro a ht
  refine wpList_nil ?_
  refine then_normal ?_
  refine wp_block ?_
  refine wpLoop (fun q a w => ∃ (xs0_1 : Int), slices_Index_int64_int64.l0 q s v xs0_1 = some r ∧ q ≤ k ∧ Tm 19 [(0, .slice A m c), (1, .int .i64 v), (4, .int .i64 0), (7, .int .i64 (s.length : Int)), (8, .int .i64 xs0_1)] a ∧ Ms X (fps []) w0 [] [IntsAt A c m s] w) (k0 := k) ⟨0, H, Nat.le_refl _, ht.sub ⟨rfl, rfl, rfl, rfl, rfl, trivial⟩, (hm.pick [] rfl (by decide)).pickφ [0] rfl⟩ ?_
  clear H ht hm
  intro q1 a w hJ
  obtain ⟨xs0_1, H, hqq1, ht, hm⟩ := hJ
  cases q1 with
  | zero => cases H
  | succ q1 =>
  rw [slices_Index_int64_int64.l0] at H
  refine wp_seq ?_
  refine wpr ?_
  refine wpl rfl rfl ht (ev_cmp ht rfl rfl rfl rfl) ?_
  intro a ht
  refine wpList_nil ?_
  refine then_normal ?_
  refine wp_seq ?_
  by_cases h2 : xs0_1 < (s.length : Int)
  · replace H := ite_yes h2 H
    refine wpc_yes ht rfl (decide_eq_true h2) ?_
    refine wp_skip ?_
    refine then_normal ?_
    refine wp_seq ?_
    refine wp_block ?_
    refine wp_seq ?_
    refine wpr ?_
    refine wpl rfl rfl ht (ev_move ht rfl rfl) ?_
    intro a ht
    refine wpl rfl rfl ht (ev_assign ht rfl rfl) ?_
    intro a ht
    refine wpList_nil ?_
    refine then_normal ?_
    refine wp_seq ?_
    refine wpr ?_
    refine wpl rfl rfl ht (ev_move ht rfl rfl) ?_
    intro a ht
    refine wpl rfl rfl ht (ev_move ht rfl rfl) ?_
    intro a ht
    refine wpl rfl rfl ht (ev_move ht rfl rfl) ?_
    intro a ht
    obtain ⟨t3, et3, H⟩ := bind_get H
    refine wpl rfl rfl ht (ev_index_ints ht rfl rfl rfl so_25 (hm.fact (φ := IntsAt A c m s) 0 rfl) et3) ?_
    intro a ht
    refine wpl rfl rfl ht (ev_load ht rfl rfl sc_2 (RowAt.cell (hm.fact (φ := IntsAt A c m s) 0 rfl) (ints_get et3) rfl)) ?_
    intro a ht
    refine wpl rfl rfl ht (ev_cmp ht rfl rfl rfl rfl) ?_
    intro a ht
    refine wpList_nil ?_
    refine then_normal ?_
    by_cases h4 : v = t3
    · replace H := ite_yes h4 H
      refine wpc_yes ht rfl (decide_eq_true h4) ?_
      refine wp_seq ?_
      refine wpr ?_
      refine wpl rfl rfl ht (ev_move ht rfl rfl) ?_
      intro a ht
      refine wpl rfl rfl ht (ev_assign ht rfl rfl) ?_
      intro a ht
      refine wpList_nil ?_
      refine then_normal ?_
      refine wp_ret ?_
      refine blk_ret ?_
      refine then_ret ?_
      refine then_ret ?_
      refine blk_ret ?_
      refine then_ret ?_
      have hres := ht.res (P := Try.prog) (w := w) (rs := [.tmp 4]) (vs := [.int .i64 xs0_1]) (.tmp rfl .nil)
      obtain rfl := Option.some.inj H
      exact leave ht rfl hres ⟨rfl, ((hm.pick [] rfl (by decide)).pickφ [] rfl).post fun _ h => h⟩
    · replace H := ite_no h4 H
      refine wpc_no ht rfl (decide_eq_false h4) ?_
      refine wp_skip ?_
      refine blk_normal ?_
      refine then_normal ?_
      refine wpr ?_
      refine wpl rfl rfl ht (ev_arith ht rfl rfl rfl rfl) ?_
      intro a ht
      refine wpl rfl rfl ht (ev_move ht rfl rfl) ?_
      intro a ht
      refine wpList_nil ?_
      exact then_normal ⟨q1, by omega, (w64 (xs0_1 + 1)), H, by omega, ht.sub ⟨rfl, rfl, rfl, rfl, rfl, trivial⟩, (hm.pick [] rfl (by decide)).pickφ [0] rfl⟩
  · replace H := ite_no h2 H
    refine wpc_no ht rfl (decide_eq_false h2) ?_
    refine wp_exit ?_
    refine then_exit ?_
    refine then_exit ?_
    refine blk_hit ?_
    refine then_normal ?_
    refine wp_seq ?_
    refine wpr ?_
    refine wpl rfl rfl ht (ev_assign ht rfl rfl) ?_
    intro a ht
    refine wpList_nil ?_
    refine then_normal ?_
    refine wp_ret ?_
    have hres := ht.res (P := Try.prog) (w := w) (rs := [.tmp 4]) (vs := [.int .i64 (-1)]) (.tmp rfl .nil)
    obtain rfl := Option.some.inj H
    exact leave ht rfl hres ⟨rfl, ((hm.pick [] rfl (by decide)).pickφ [] rfl).post fun _ h => h⟩

/-! ### slices_Contains_int64_int64: function 54 (slices.Contains[[]int64,int64]) -/
def slices_Contains_int64_int64.f (k : Nat) (s : List Int) (v : Int) : Option (Bool) := (slices_Index_int64_int64.f k s v).bind fun t1 => some (decide (t1 ≥ 0))
set_option maxRecDepth 100000 in
set_option maxHeartbeats 1000000 in
theorem slices_Contains_int64_int64.calls (k : Nat) (X : List Nat) (w0 : World) (A : Option Addr) (c : Nat) (m : Nat) (s : List Int) (v : Int) (r : Bool)
    (hp : Pre X w0 [] [IntsAt A c m s]) (H : slices_Contains_int64_int64.f k s v = some r) :
    Calls Try.prog 54 [.slice A m c, .int .i64 v].toArray w0 (Ret fun v w => v = .bool r ∧ Post X (fps []) w0 [] [] w) := by
  unfold slices_Contains_int64_int64.f at H
  refine enterM (n := 9) hp Try.func54 rfl rfl (Nat.le_of_ble_eq_true rfl) fun a w ht hm => ?_
  refine wp_seq ?_
  refine wpr ?_
  refine wpl rfl rfl ht (ev_assign ht rfl rfl) ?_
  intro a ht
  refine wpList_nil ?_
  refine then_normal ?_
  refine wp_seq ?_
  refine wpr ?_
  refine wpl rfl rfl ht (ev_move ht rfl rfl) ?_
  intro a ht
  refine wpl rfl rfl ht (ev_move ht rfl rfl) ?_
  intro a ht
  obtain ⟨t1, et1, H⟩ := bind_get H
  have hcall := slices_Index_int64_int64.calls k _ _ A c m s v _ ((fun (hq : Ms _ _ _ ([] ++ []) _ _) => hq.lend (φp := [IntsAt A c m s]) (allRO_cons (hq.lendFact 0 rfl) (allRO_nil))) (hm.pick (own' := [] ++ []) [] rfl (by decide))) et1
  refine wpl_call _ rfl rfl ht rfl rfl rfl rfl can_61 hcall ?_
  clear hcall
  rintro _ w ⟨rfl, hpost⟩ a ht
  replace hm := (hm.pick (own' := [] ++ []) [] rfl (by decide)).backL hpost
  clear hpost
  refine wpl rfl rfl ht (ev_cmp ht rfl rfl rfl rfl) ?_
  intro a ht
  refine wpl rfl rfl ht (ev_assign ht rfl rfl) ?_
  intro a ht
  refine wpList_nil ?_
  refine then_normal ?_
  refine wp_ret ?_
  have hres := ht.res (P := Try.prog) (w := w) (rs := [.tmp 4]) (vs := [.bool (decide (t1 ≥ 0))]) (.tmp rfl .nil)
  obtain rfl := Option.some.inj H
  exact leave ht rfl hres ⟨rfl, ((hm.pick [] rfl (by decide)).pickφ [] rfl).post fun _ h => h⟩

/-! ### impl_Colouring_cycle: function 38 ((*loop.example/g01362/impl.Colouring).cycle) -/
mutual
def impl_Colouring_cycle.l0 : Nat → Col → Int → Int → List Int → Int → Int → Option (Option (List Int))
  | 0, _, _, _, _, _, _ => none
  | q10 + 1, x, c, m, list, t1, xs0_1 => if xs0_1 < x.p then ((slices_Contains_int64_int64.f q10 list xs0_1).bind fun t12 => if t12 = true then (impl_Colouring_cycle.l0 q10 x c m list t1 (w64 (xs0_1 + 1))) else ((impl_Colouring_joins.f x t1 xs0_1 c).bind fun t14 => if t14 = true then ((guardO (list.length < 17)).bind fun _ => (push list xs0_1).bind fun l21 => (impl_Colouring_cycle.f q10 x c m l21).bind fun t22 => onOpt t22 (impl_Colouring_cycle.l0 q10 x c m list t1 (w64 (xs0_1 + 1))) (fun l24 => some (some l24))) else (impl_Colouring_cycle.l0 q10 x c m list t1 (w64 (xs0_1 + 1))))) else (some none)
def impl_Colouring_cycle.f : Nat → Col → Int → Int → List Int → Option (Option (List Int))
  | 0, _, _, _, _ => none
  | k + 1, x, c, m, list => (getI list (w64 ((list.length : Int) - 1))).bind fun t1 => (impl_size_int64.f list).bind fun t2 => if t2 = m then ((getI list 0).bind fun t4 => (impl_Colouring_joins.f x t4 t1 c).bind fun t5 => if t5 = true then ((getI list 1).bind fun t7 => if t7 < t1 then (some (some list)) else (some none)) else (some none)) else ((getI list 0).bind fun t9 => impl_Colouring_cycle.l0 k x c m list t1 (w64 (t9 + 1)))
end
set_option maxRecDepth 100000 in
set_option maxHeartbeats 1000000 in
theorem impl_Colouring_cycle.calls (k : Nat) (X : List Nat) (w0 : World) (b : Nat) (A : Option Addr) (m2 : Nat) (x : Col) (c : Int) (m : Int) (list : List Int) (r : Option (List Int))
    (hp : Pre X w0 [.blk b 28 (Col.cells x), .vec A 17 2 1 m2 (ints list)] []) (H : impl_Colouring_cycle.f k x c m list = some r) :
    Calls Try.prog 38 [.pointer (some ⟨b, 0, none⟩), .int .i64 c, .int .i64 m, .slice A m2 17].toArray w0 (Ret fun v w => ∃ (n_0 : Nat), v = aliasV A n_0 17 r ∧ Post X (fps [.blk b 28 (Col.cells x), .vec A 17 2 1 m2 (ints list)]) w0 [.vec A 17 2 1 (aliasN m2 n_0 r) (ints (Option.getD r list)), .blk b 28 (Col.cells x)] [] w) := by
  induction k using Nat.strongRecOn generalizing X w0 b A m2 x c m list r with
  | _ k ih =>
  cases k with
  | zero => cases H
  | succ k =>
  rw [impl_Colouring_cycle.f] at H
  refine enterM (n := 71) hp Try.func38 rfl rfl (Nat.le_of_ble_eq_true rfl) fun a w ht hm => ?_
  induction k using Nat.strongRecOn with
  | _ k ih =>
  refine wp_seq ?_
  refine wpr ?_
  refine wpl rfl rfl ht (ev_assign ht rfl rfl) ?_
  intro a ht
  refine wpList_nil ?_
  refine then_normal ?_
  refine wp_seq ?_
  refine wpr ?_
  refine wpl rfl rfl ht (ev_move ht rfl rfl) ?_
  intro a ht
  refine wpl rfl rfl ht (ev_move ht rfl rfl) ?_
  intro a ht
  refine wpl rfl rfl ht (ev_len_of ht rfl rfl und_25 (hm.vec_row 1 rfl)) ?_
  intro a ht
  refine wpl rfl rfl ht (ev_arith ht rfl rfl rfl rfl) ?_
  intro a ht
  obtain ⟨t1, et1, H⟩ := bind_get H
  refine wpl rfl rfl ht (ev_index_ints ht rfl rfl rfl so_25 (hm.vec_row 1 rfl) et1) ?_
  intro a ht
  refine wpl rfl rfl ht (ev_load ht rfl rfl sc_2 (RowAt.cell (hm.vec_row 1 rfl) (ints_get et1) rfl)) ?_
  intro a ht
  refine wpl rfl rfl ht (ev_assign ht rfl rfl) ?_
  intro a ht
  refine wpList_nil ?_
  refine then_normal ?_
  refine wp_seq ?_
  refine wp_seq ?_
  refine wpr ?_
  refine wpl rfl rfl ht (ev_move ht rfl rfl) ?_
  intro a ht
  obtain ⟨t2, et2, H⟩ := bind_get H
  have hcall := impl_size_int64.calls _ _ A 17 m2 list _ ((fun (hq : Ms _ _ _ ([] ++ [.blk b 28 (Col.cells x), .vec A 17 2 1 m2 (ints list)]) _ _) => hq.lend (φp := [IntsAt A 17 m2 list]) (allRO_cons (hq.lendVec 1 rfl) (allRO_nil))) (hm.pick (own' := [] ++ [.blk b 28 (Col.cells x), .vec A 17 2 1 m2 (ints list)]) [0, 1] rfl (by decide))) et2
  refine wpl_call _ rfl rfl ht rfl rfl rfl rfl can_53 hcall ?_
  clear hcall
  rintro _ w ⟨rfl, hpost⟩ a ht
  replace hm := (hm.pick (own' := [] ++ [.blk b 28 (Col.cells x), .vec A 17 2 1 m2 (ints list)]) [0, 1] rfl (by decide)).backL hpost
  clear hpost
  refine wpl rfl rfl ht (ev_move ht rfl rfl) ?_
  intro a ht
  refine wpl rfl rfl ht (ev_cmp ht rfl rfl rfl rfl) ?_
  intro a ht
  refine wpList_nil ?_
  refine then_normal ?_
  by_cases h3 : t2 = m
  · replace H := ite_yes h3 H
    refine wpc_yes ht rfl (decide_eq_true h3) ?_
    refine wp_seq ?_
    refine wp_seq ?_
    refine wpr ?_
    refine wpl rfl rfl ht (ev_move ht rfl rfl) ?_
    intro a ht
    refine wpl rfl rfl ht (ev_move ht rfl rfl) ?_
    intro a ht
    obtain ⟨t4, et4, H⟩ := bind_get H
    refine wpl rfl rfl ht (ev_index_ints ht rfl rfl rfl so_25 (hm.vec_row 1 rfl) et4) ?_
    intro a ht
    refine wpl rfl rfl ht (ev_load ht rfl rfl sc_2 (RowAt.cell (hm.vec_row 1 rfl) (ints_get et4) rfl)) ?_
    intro a ht
    refine wpl rfl rfl ht (ev_move ht rfl rfl) ?_
    intro a ht
    refine wpl rfl rfl ht (ev_move ht rfl rfl) ?_
    intro a ht
    obtain ⟨t5, et5, H⟩ := bind_get H
    have hcall := impl_Colouring_joins.calls _ _ b x t4 t1 c _ ((fun (hq : Ms _ _ _ ([.blk b 28 (Col.cells x)] ++ [.vec A 17 2 1 m2 (ints list)]) _ _) => hq.lend (φp := []) (allRO_nil)) (hm.pick (own' := [.blk b 28 (Col.cells x)] ++ [.vec A 17 2 1 m2 (ints list)]) [0, 1] rfl (by decide))) et5
    refine wpl_call _ rfl rfl ht rfl rfl rfl rfl can_46 hcall ?_
    clear hcall
    rintro _ w ⟨rfl, hpost⟩ a ht
    replace hm := (hm.pick (own' := [.blk b 28 (Col.cells x)] ++ [.vec A 17 2 1 m2 (ints list)]) [0, 1] rfl (by decide)).backL hpost
    clear hpost
    refine wpl rfl rfl ht (ev_move ht rfl rfl) ?_
    intro a ht
    by_cases h6 : t5 = true
    · replace H := ite_yes h6 H
      refine wpl_yes rfl ht rfl (h6) ?_
      refine wpl rfl rfl ht (ev_move ht rfl rfl) ?_
      intro a ht
      refine wpl_yes rfl ht rfl (h6) ?_
      obtain ⟨t7, et7, H⟩ := bind_get H
      refine wpl rfl rfl ht (ev_index_ints ht rfl rfl rfl so_25 (hm.vec_row 1 rfl) et7) ?_
      intro a ht
      refine wpl_yes rfl ht rfl (h6) ?_
      refine wpl rfl rfl ht (ev_load ht rfl rfl sc_2 (RowAt.cell (hm.vec_row 1 rfl) (ints_get et7) rfl)) ?_
      intro a ht
      refine wpl_yes rfl ht rfl (h6) ?_
      refine wpl rfl rfl ht (ev_move ht rfl rfl) ?_
      intro a ht
      refine wpl_yes rfl ht rfl (h6) ?_
      refine wpl rfl rfl ht (ev_cmp ht rfl rfl rfl rfl) ?_
      intro a ht
      refine wpl rfl rfl ht (ev_pick_yes ht rfl rfl h6 rfl) ?_
      intro a ht
      refine wpList_nil ?_
      refine then_normal ?_
      by_cases h8 : t7 < t1
      · replace H := ite_yes h8 H
        refine wpc_yes ht rfl (decide_eq_true h8) ?_
        refine wp_seq ?_
        refine wpr ?_
        refine wpl rfl rfl ht (ev_move ht rfl rfl) ?_
        intro a ht
        refine wpl rfl rfl ht (ev_assign ht rfl rfl) ?_
        intro a ht
        refine wpList_nil ?_
        refine then_normal ?_
        refine wp_ret ?_
        refine then_ret ?_
        refine then_ret ?_
        have hres := ht.res (P := Try.prog) (w := w) (rs := [.tmp 8]) (vs := [.slice A m2 17]) (.tmp rfl .nil)
        obtain rfl := Option.some.inj H
        exact leave ht rfl hres ⟨m2, rfl, ((hm.pick [1, 0] rfl (by decide)).pickφ [] rfl).post fun _ h => h⟩
      · replace H := ite_no h8 H
        refine wpc_no ht rfl (decide_eq_false h8) ?_
        refine wp_skip ?_
        refine then_normal ?_
        refine wp_seq ?_
        refine wpr ?_
        refine wpl rfl rfl ht (ev_assign ht rfl rfl) ?_
        intro a ht
        refine wpList_nil ?_
        refine then_normal ?_
        refine wp_ret ?_
        refine then_ret ?_
        have hres := ht.res (P := Try.prog) (w := w) (rs := [.tmp 8]) (vs := [.slice none 0 0]) (.tmp rfl .nil)
        obtain rfl := Option.some.inj H
        exact leave ht rfl hres ⟨m2, rfl, ((hm.pick [1, 0] rfl (by decide)).pickφ [] rfl).post fun _ h => h⟩
    · replace H := ite_no h6 H
      refine wpl_no rfl rfl ht rfl (by rw [(Bool.eq_false_iff.mpr h6)]; decide) ?_
      intro a ht
      refine wpl_no rfl rfl ht rfl (by rw [(Bool.eq_false_iff.mpr h6)]; decide) ?_
      intro a ht
      refine wpl_no rfl rfl ht rfl (by rw [(Bool.eq_false_iff.mpr h6)]; decide) ?_
      intro a ht
      refine wpl_no rfl rfl ht rfl (by rw [(Bool.eq_false_iff.mpr h6)]; decide) ?_
      intro a ht
      refine wpl_no rfl rfl ht rfl (by rw [(Bool.eq_false_iff.mpr h6)]; decide) ?_
      intro a ht
      refine wpl rfl rfl ht (ev_pick_no ht rfl rfl (Bool.eq_false_iff.mpr h6) rfl) ?_
      intro a ht
      refine wpList_nil ?_
      refine then_normal ?_
      refine wpc_no ht rfl rfl ?_
      refine wp_skip ?_
      refine then_normal ?_
      refine wp_seq ?_
      refine wpr ?_
      refine wpl rfl rfl ht (ev_assign ht rfl rfl) ?_
      intro a ht
      refine wpList_nil ?_
      refine then_normal ?_
      refine wp_ret ?_
      refine then_ret ?_
      have hres := ht.res (P := Try.prog) (w := w) (rs := [.tmp 8]) (vs := [.slice none 0 0]) (.tmp rfl .nil)
      obtain rfl := Option.some.inj H
      exact leave ht rfl hres ⟨m2, rfl, ((hm.pick [1, 0] rfl (by decide)).pickφ [] rfl).post fun _ h => h⟩
  · replace H := ite_no h3 H
    refine wpc_no ht rfl (decide_eq_false h3) ?_
    refine wp_skip ?_
    refine then_normal ?_
    refine wp_seq ?_
    refine wp_seq ?_
    refine wpr ?_
    refine wpl rfl rfl ht (ev_move ht rfl rfl) ?_
    intro a ht
    obtain ⟨t9, et9, H⟩ := bind_get H
    refine wpl rfl rfl ht (ev_index_ints ht rfl rfl rfl so_25 (hm.vec_row 1 rfl) et9) ?_
    intro a ht
    refine wpl rfl rfl ht (ev_load ht rfl rfl sc_2 (RowAt.cell (hm.vec_row 1 rfl) (ints_get et9) rfl)) ?_
    intro a ht
    refine wpl rfl rfl ht (ev_arith ht rfl rfl rfl rfl) ?_
    intro a ht
    refine wpl rfl rfl ht (ev_assign ht rfl rfl) ?_
    intro a ht
    refine wpList_nil ?_
    refine then_normal ?_
    refine wp_block ?_
    refine wpLoop (fun q a w => ∃ (xs0_1 : Int), impl_Colouring_cycle.l0 q x c m list t1 xs0_1 = some r ∧ q ≤ k ∧ Tm 71 [(0, .pointer (some ⟨b, 0, none⟩)), (1, .int .i64 c), (2, .int .i64 m), (3, .slice A m2 17), (8, .slice none 0 0), (9, .int .i64 t1), (10, .int .i64 xs0_1)] a ∧ Ms X (fps [.blk b 28 (Col.cells x), .vec A 17 2 1 m2 (ints list)]) w0 [.blk b 28 (Col.cells x), .vec A 17 2 1 m2 (ints list)] [] w) (k0 := k) ⟨(w64 (t9 + 1)), H, Nat.le_refl _, ht.sub ⟨rfl, rfl, rfl, rfl, rfl, rfl, rfl, trivial⟩, (hm.pick [0, 1] rfl (by decide)).pickφ [] rfl⟩ ?_
    clear H ht hm
    intro q10 a w hJ
    obtain ⟨xs0_1, H, hqq10, ht, hm⟩ := hJ
    cases q10 with
    | zero => cases H
    | succ q10 =>
    rw [impl_Colouring_cycle.l0] at H
    refine wp_seq ?_
    refine wp_seq ?_
    refine wpr ?_
    refine wpl rfl rfl ht (ev_move ht rfl rfl) ?_
    intro a ht
    refine wpl rfl rfl ht (ev_move ht rfl rfl) ?_
    intro a ht
    refine wpl rfl rfl ht (ev_nilCheck ht rfl rfl) ?_
    intro a ht
    refine wpl rfl rfl ht (ev_fieldAddr ht rfl rfl fo_28_0) ?_
    intro a ht
    refine wpl rfl rfl ht (ev_load ht rfl rfl sc_2 (hm.blk_cell 0 rfl rfl)) ?_
    intro a ht
    refine wpl rfl rfl ht (ev_cmp ht rfl rfl rfl rfl) ?_
    intro a ht
    refine wpList_nil ?_
    refine then_normal ?_
    by_cases h11 : xs0_1 < x.p
    · replace H := ite_yes h11 H
      refine wpc_yes ht rfl (decide_eq_true h11) ?_
      refine wp_skip ?_
      refine then_normal ?_
      refine wp_seq ?_
      refine wp_block ?_
      refine wp_seq ?_
      refine wpr ?_
      refine wpl rfl rfl ht (ev_move ht rfl rfl) ?_
      intro a ht
      refine wpl rfl rfl ht (ev_move ht rfl rfl) ?_
      intro a ht
      obtain ⟨t12, et12, H⟩ := bind_get H
      have hcall := slices_Contains_int64_int64.calls q10 _ _ A 17 m2 list xs0_1 _ ((fun (hq : Ms _ _ _ ([] ++ [.blk b 28 (Col.cells x), .vec A 17 2 1 m2 (ints list)]) _ _) => hq.lend (φp := [IntsAt A 17 m2 list]) (allRO_cons (hq.lendVec 1 rfl) (allRO_nil))) (hm.pick (own' := [] ++ [.blk b 28 (Col.cells x), .vec A 17 2 1 m2 (ints list)]) [0, 1] rfl (by decide))) et12
      refine wpl_call _ rfl rfl ht rfl rfl rfl rfl can_54 hcall ?_
      clear hcall
      rintro _ w ⟨rfl, hpost⟩ a ht
      replace hm := (hm.pick (own' := [] ++ [.blk b 28 (Col.cells x), .vec A 17 2 1 m2 (ints list)]) [0, 1] rfl (by decide)).backL hpost
      clear hpost
      refine wpl rfl rfl ht (ev_not ht rfl rfl) ?_
      intro a ht
      refine wpl rfl rfl ht (ev_move ht rfl rfl) ?_
      intro a ht
      by_cases h13 : t12 = true
      · replace H := ite_yes h13 H
        refine wpl_no rfl rfl ht rfl (by rw [(not_t h13)]; decide) ?_
        intro a ht
        refine wpl_no rfl rfl ht rfl (by rw [(not_t h13)]; decide) ?_
        intro a ht
        refine wpl_no rfl rfl ht rfl (by rw [(not_t h13)]; decide) ?_
        intro a ht
        refine wpl_no rfl rfl ht rfl (by rw [(not_t h13)]; decide) ?_
        intro a ht
        refine wpl_no rfl rfl ht rfl (by rw [(not_t h13)]; decide) ?_
        intro a ht
        refine wpl rfl rfl ht (ev_pick_no ht rfl rfl (not_t h13) rfl) ?_
        intro a ht
        refine wpList_nil ?_
        refine then_normal ?_
        refine wpc_no ht rfl rfl ?_
        refine wp_skip ?_
        refine blk_normal ?_
        refine then_normal ?_
        refine wpr ?_
        refine wpl rfl rfl ht (ev_move ht rfl rfl) ?_
        intro a ht
        refine wpl rfl rfl ht (ev_arith ht rfl rfl rfl rfl) ?_
        intro a ht
        refine wpl rfl rfl ht (ev_assign ht rfl rfl) ?_
        intro a ht
        refine wpList_nil ?_
        exact then_normal ⟨q10, by omega, (w64 (xs0_1 + 1)), H, by omega, ht.sub ⟨rfl, rfl, rfl, rfl, rfl, rfl, rfl, trivial⟩, (hm.pick [0, 1] rfl (by decide)).pickφ [] rfl⟩
      · replace H := ite_no h13 H
        refine wpl_yes rfl ht rfl ((not_f (Bool.eq_false_iff.mpr h13))) ?_
        refine wpl rfl rfl ht (ev_move ht rfl rfl) ?_
        intro a ht
        refine wpl_yes rfl ht rfl ((not_f (Bool.eq_false_iff.mpr h13))) ?_
        refine wpl rfl rfl ht (ev_move ht rfl rfl) ?_
        intro a ht
        refine wpl_yes rfl ht rfl ((not_f (Bool.eq_false_iff.mpr h13))) ?_
        refine wpl rfl rfl ht (ev_move ht rfl rfl) ?_
        intro a ht
        refine wpl_yes rfl ht rfl ((not_f (Bool.eq_false_iff.mpr h13))) ?_
        refine wpl rfl rfl ht (ev_move ht rfl rfl) ?_
        intro a ht
        refine wpl_yes rfl ht rfl ((not_f (Bool.eq_false_iff.mpr h13))) ?_
        obtain ⟨t14, et14, H⟩ := bind_get H
        have hcall := impl_Colouring_joins.calls _ _ b x t1 xs0_1 c _ ((fun (hq : Ms _ _ _ ([.blk b 28 (Col.cells x)] ++ [.vec A 17 2 1 m2 (ints list)]) _ _) => hq.lend (φp := []) (allRO_nil)) (hm.pick (own' := [.blk b 28 (Col.cells x)] ++ [.vec A 17 2 1 m2 (ints list)]) [0, 1] rfl (by decide))) et14
        refine wpl_call _ rfl rfl ht rfl rfl rfl rfl can_46 hcall ?_
        clear hcall
        rintro _ w ⟨rfl, hpost⟩ a ht
        replace hm := (hm.pick (own' := [.blk b 28 (Col.cells x)] ++ [.vec A 17 2 1 m2 (ints list)]) [0, 1] rfl (by decide)).backL hpost
        clear hpost
        refine wpl rfl rfl ht (ev_pick_yes ht rfl rfl (not_f (Bool.eq_false_iff.mpr h13)) rfl) ?_
        intro a ht
        refine wpList_nil ?_
        refine then_normal ?_
        by_cases h15 : t14 = true
        · replace H := ite_yes h15 H
          refine wpc_yes ht rfl h15 ?_
          refine wp_seq ?_
          refine wpr ?_
          refine wpl rfl rfl ht (ev_move ht rfl rfl) ?_
          intro a ht
          refine wpl rfl rfl ht (ev_move ht rfl rfl) ?_
          intro a ht
          refine wpl rfl rfl ht (ev_move ht rfl rfl) ?_
          intro a ht
          refine wpl rfl rfl ht (ev_move ht rfl rfl) ?_
          intro a ht
          refine wpl rfl rfl ht (ev_move ht rfl rfl) ?_
          intro a ht
          refine wpl_build_ints (l := [xs0_1]) rfl rfl ht hm rfl und_25 zo_2 sz1_2 (by decide) rfl rfl rfl ?_
          intro A16 a ht w hm
          obtain ⟨u20, eu20, H⟩ := bind_get H
          obtain ⟨l21, el21, H⟩ := bind_get H
          refine wpl_push_in (r := l21) 2 0 rfl rfl ht hm rfl ap_25 rfl rfl rfl rfl (guardO_get eu20) el21 ?_
          intro a ht w hm
          obtain ⟨t22, et22, H⟩ := bind_get H
          have hcall := ih q10 (by omega) _ _ b A (m2 + 1) x c m l21 _ ((fun (hq : Ms _ _ _ ([.blk b 28 (Col.cells x), .vec A 17 2 1 (m2 + 1) (ints l21)] ++ [.vec A16 1 2 1 1 (ints ([xs0_1]))]) _ _) => hq.lend (φp := []) (allRO_nil)) (hm.pick (own' := [.blk b 28 (Col.cells x), .vec A 17 2 1 (m2 + 1) (ints l21)] ++ [.vec A16 1 2 1 1 (ints ([xs0_1]))]) [1, 2, 0] rfl (by decide))) et22
          refine wpl_call _ rfl rfl ht rfl rfl rfl rfl can_38 hcall ?_
          clear hcall
          rintro _ w ⟨m23, rfl, hpost⟩ a ht
          replace hm := (hm.pick (own' := [.blk b 28 (Col.cells x), .vec A 17 2 1 (m2 + 1) (ints l21)] ++ [.vec A16 1 2 1 1 (ints ([xs0_1]))]) [1, 2, 0] rfl (by decide)).backL hpost
          clear hpost
          rcases t22 with _ | l24
          · replace H := onOpt_none H
            replace hm : Ms _ _ _ ([.vec A 17 2 1 (m2 + 1) (ints l21), .blk b 28 (Col.cells x), .vec A16 1 2 1 1 (ints ([xs0_1]))]) _ w := hm
            replace hm := hm.unpush (l := list) (m := m2) 0 rfl el21
            refine wpl rfl rfl ht (ev_assign ht rfl rfl) ?_
            intro a ht
            refine wpList_nil ?_
            refine then_normal ?_
            refine wp_seq ?_
            refine wpr ?_
            refine wpl rfl rfl ht (ev_move ht rfl rfl) ?_
            intro a ht
            refine wpl rfl rfl ht (ev_ne_nil_none ht rfl rfl rfl und_25) ?_
            intro a ht
            refine wpList_nil ?_
            refine then_normal ?_
            refine wpc_no ht rfl rfl ?_
            refine wp_skip ?_
            refine blk_normal ?_
            refine then_normal ?_
            refine wpr ?_
            refine wpl rfl rfl ht (ev_move ht rfl rfl) ?_
            intro a ht
            refine wpl rfl rfl ht (ev_arith ht rfl rfl rfl rfl) ?_
            intro a ht
            refine wpl rfl rfl ht (ev_assign ht rfl rfl) ?_
            intro a ht
            refine wpList_nil ?_
            exact then_normal ⟨q10, by omega, (w64 (xs0_1 + 1)), H, by omega, ht.sub ⟨rfl, rfl, rfl, rfl, rfl, rfl, rfl, trivial⟩, (hm.pick [1, 0] rfl (by decide)).pickφ [] rfl⟩
          · replace H := onOpt_some H
            replace hm : Ms _ _ _ ([.vec A 17 2 1 m23 (ints l24), .blk b 28 (Col.cells x), .vec A16 1 2 1 1 (ints ([xs0_1]))]) _ w := hm
            refine wpl rfl rfl ht (ev_assign ht rfl rfl) ?_
            intro a ht
            refine wpList_nil ?_
            refine then_normal ?_
            refine wp_seq ?_
            refine wpr ?_
            refine wpl rfl rfl ht (ev_move ht rfl rfl) ?_
            intro a ht
            refine wpl rfl rfl ht (ev_ne_nil_cap ht rfl rfl rfl und_25 (vecSome hm 0 rfl (by decide))) ?_
            intro a ht
            refine wpList_nil ?_
            refine then_normal ?_
            refine wpc_yes ht rfl rfl ?_
            refine wp_seq ?_
            refine wpr ?_
            refine wpl rfl rfl ht (ev_move ht rfl rfl) ?_
            intro a ht
            refine wpl rfl rfl ht (ev_assign ht rfl rfl) ?_
            intro a ht
            refine wpList_nil ?_
            refine then_normal ?_
            refine wp_ret ?_
            refine blk_ret ?_
            refine then_ret ?_
            refine then_ret ?_
            refine blk_ret ?_
            refine then_ret ?_
            have hres := ht.res (P := Try.prog) (w := w) (rs := [.tmp 8]) (vs := [.slice A m23 17]) (.tmp rfl .nil)
            obtain rfl := Option.some.inj H
            exact leave ht rfl hres ⟨m23, rfl, ((hm.pick [0, 1] rfl (by decide)).pickφ [] rfl).post fun _ h => h⟩
        · replace H := ite_no h15 H
          refine wpc_no ht rfl (Bool.eq_false_iff.mpr h15) ?_
          refine wp_skip ?_
          refine blk_normal ?_
          refine then_normal ?_
          refine wpr ?_
          refine wpl rfl rfl ht (ev_move ht rfl rfl) ?_
          intro a ht
          refine wpl rfl rfl ht (ev_arith ht rfl rfl rfl rfl) ?_
          intro a ht
          refine wpl rfl rfl ht (ev_assign ht rfl rfl) ?_
          intro a ht
          refine wpList_nil ?_
          exact then_normal ⟨q10, by omega, (w64 (xs0_1 + 1)), H, by omega, ht.sub ⟨rfl, rfl, rfl, rfl, rfl, rfl, rfl, trivial⟩, (hm.pick [0, 1] rfl (by decide)).pickφ [] rfl⟩
    · replace H := ite_no h11 H
      refine wpc_no ht rfl (decide_eq_false h11) ?_
      refine wp_exit ?_
      refine then_exit ?_
      refine then_exit ?_
      refine blk_hit ?_
      refine then_normal ?_
      refine wp_seq ?_
      refine wpr ?_
      refine wpl rfl rfl ht (ev_assign ht rfl rfl) ?_
      intro a ht
      refine wpList_nil ?_
      refine then_normal ?_
      refine wp_ret ?_
      have hres := ht.res (P := Try.prog) (w := w) (rs := [.tmp 8]) (vs := [.slice none 0 0]) (.tmp rfl .nil)
      obtain rfl := Option.some.inj H
      exact leave ht rfl hres ⟨m2, rfl, ((hm.pick [1, 0] rfl (by decide)).pickφ [] rfl).post fun _ h => h⟩

end Go.Proofs.Ytjhcacfhahpdgaa.G
