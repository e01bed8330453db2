/- What each Go function computes, as a Lean function, and the proof that it does: written by a program of this session (wip/gen), part 4. -/
import Derived.Test.YtdpamdedomkomaaGFnExactIsClique3
namespace Go.Proofs.Ytdpamdedomkomaa.G
open Go Go.RowKit Go.Proofs.Ytdpamdedomkomaa.K
set_option linter.unusedVariables false
set_option linter.unusedSimpArgs false

/-! ### impl_IsClique_1: function 53 (loop.example/g01362/impl.IsClique$1) -/
def impl_IsClique_1.f (k : Nat) (x : Col) (x2 : Int) (x3 : List Int) : Option (Bool) := (impl_Colouring_hasColour.f x x2).bind fun t1 => if t1 = true then ((impl_Colouring_isSet.f k x x3).bind fun t3 => some t3) else (some false)
set_option maxRecDepth 100000 in
set_option maxHeartbeats 1000000 in
theorem impl_IsClique_1.calls (k : Nat) (X : List Nat) (w0 : World) (b : Nat) (b2 : Nat) (b3 : Nat) (A : Option Addr) (c : Nat) (m : Nat) (x : Col) (x2 : Int) (x3 : List Int) (r : Bool)
    (hp : Pre X w0 [.blk b 28 (Col.cells x), .blk b2 2 [.int .i64 x2], .blk b3 25 [.slice A m c]] [IntsAt A c m x3]) (H : impl_IsClique_1.f k x x2 x3 = some r) :
    Calls Try.prog 53 [.pointer (some ⟨b, 0, none⟩), .pointer (some ⟨b2, 0, none⟩), .pointer (some ⟨b3, 0, none⟩)].toArray w0 (Ret fun v w => v = .bool r ∧ Post X (fps [.blk b 28 (Col.cells x), .blk b2 2 [.int .i64 x2], .blk b3 25 [.slice A m c]]) w0 [.blk b 28 (Col.cells x), .blk b2 2 [.int .i64 x2], .blk b3 25 [.slice A m c]] [] w) := by
  unfold impl_IsClique_1.f at H
  refine enterM (n := 10) hp Try.func53 rfl rfl (Nat.le_of_ble_eq_true rfl) fun a w ht hm => ?_
  refine wp_seq ?_
  refine wpr ?_
  refine wpl rfl rfl ht (ev_assign ht rfl rfl) ?_
  intro a ht
  refine wpList_nil ?_
  refine then_normal ?_
  refine wp_seq ?_
  refine wpr ?_
  refine wpl rfl rfl ht (ev_load ht rfl rfl sc_2 (hm.blk_cell 1 rfl rfl)) ?_
  intro a ht
  obtain ⟨t1, et1, H⟩ := bind_get H
  have hcall := impl_Colouring_hasColour.calls _ _ b x x2 _ ((fun (hq : Ms _ _ _ ([.blk b 28 (Col.cells x)] ++ [.blk b2 2 [.int .i64 x2], .blk b3 25 [.slice A m c]]) _ _) => hq.lend (φp := []) (allRO_nil)) (hm.pick (own' := [.blk b 28 (Col.cells x)] ++ [.blk b2 2 [.int .i64 x2], .blk b3 25 [.slice A m c]]) [0, 1, 2] rfl (by decide))) et1
  refine wpl_call _ rfl rfl ht rfl rfl rfl rfl can_54 hcall ?_
  clear hcall
  rintro _ w ⟨rfl, hpost⟩ a ht
  replace hm := (hm.pick (own' := [.blk b 28 (Col.cells x)] ++ [.blk b2 2 [.int .i64 x2], .blk b3 25 [.slice A m c]]) [0, 1, 2] rfl (by decide)).backL hpost
  clear hpost
  refine wpl rfl rfl ht (ev_move ht rfl rfl) ?_
  intro a ht
  by_cases h2 : t1 = true
  · replace H := ite_yes h2 H
    refine wpl_yes rfl ht rfl (h2) ?_
    refine wpl rfl rfl ht (ev_load ht rfl rfl sc_25 (hm.blk_cell 2 rfl rfl)) ?_
    intro a ht
    refine wpl_yes rfl ht rfl (h2) ?_
    obtain ⟨t3, et3, H⟩ := bind_get H
    have hcall := impl_Colouring_isSet.calls k _ _ b A c m x x3 _ ((fun (hq : Ms _ _ _ ([.blk b 28 (Col.cells x)] ++ [.blk b2 2 [.int .i64 x2], .blk b3 25 [.slice A m c]]) _ _) => hq.lend (φp := [IntsAt A c m x3]) (allRO_cons (hq.lendFact 0 rfl) (allRO_nil))) (hm.pick (own' := [.blk b 28 (Col.cells x)] ++ [.blk b2 2 [.int .i64 x2], .blk b3 25 [.slice A m c]]) [0, 1, 2] rfl (by decide))) et3
    refine wpl_call _ rfl rfl ht rfl rfl rfl rfl can_55 hcall ?_
    clear hcall
    rintro _ w ⟨rfl, hpost⟩ a ht
    replace hm := (hm.pick (own' := [.blk b 28 (Col.cells x)] ++ [.blk b2 2 [.int .i64 x2], .blk b3 25 [.slice A m c]]) [0, 1, 2] rfl (by decide)).backL hpost
    clear hpost
    refine wpl rfl rfl ht (ev_pick_yes ht rfl rfl h2 rfl) ?_
    intro a ht
    refine wpl rfl rfl ht (ev_assign ht rfl rfl) ?_
    intro a ht
    refine wpList_nil ?_
    refine then_normal ?_
    refine wp_ret ?_
    have hres := ht.res (P := Try.prog) (w := w) (rs := [.tmp 3]) (vs := [.bool t3]) (.tmp rfl .nil)
    obtain rfl := Option.some.inj H
    exact leave ht rfl hres ⟨rfl, ((hm.pick [0, 1, 2] rfl (by decide)).pickφ [] rfl).post fun _ h => h⟩
  · replace H := ite_no h2 H
    refine wpl_no rfl rfl ht rfl (by rw [(Bool.eq_false_iff.mpr h2)]; decide) ?_
    intro a ht
    refine wpl_no rfl rfl ht rfl (by rw [(Bool.eq_false_iff.mpr h2)]; decide) ?_
    intro a ht
    refine wpl rfl rfl ht (ev_pick_no ht rfl rfl (Bool.eq_false_iff.mpr h2) rfl) ?_
    intro a ht
    refine wpl rfl rfl ht (ev_assign ht rfl rfl) ?_
    intro a ht
    refine wpList_nil ?_
    refine then_normal ?_
    refine wp_ret ?_
    have hres := ht.res (P := Try.prog) (w := w) (rs := [.tmp 3]) (vs := [.bool false]) (.tmp rfl .nil)
    obtain rfl := Option.some.inj H
    exact leave ht rfl hres ⟨rfl, ((hm.pick [0, 1, 2] rfl (by decide)).pickφ [] rfl).post fun _ h => h⟩

/-! ### impl_Colouring_code__IsClique_1: function 52 ((*loop.example/g01362/impl.Colouring).code) -/
def impl_Colouring_code__IsClique_1.f (k : Nat) (x : Col) (right : Int) (right2 : List Int) : Option (Int) := (impl_Colouring_isColouring.f k x).bind fun t1 => if t1 = true then ((impl_IsClique_1.f k x right right2).bind fun t3 => if t3 = true then (some 0) else (some 2)) else (some 1)
set_option maxRecDepth 100000 in
set_option maxHeartbeats 1000000 in
theorem impl_Colouring_code__IsClique_1.calls (k : Nat) (X : List Nat) (w0 : World) (b : Nat) (b2 : Nat) (b3 : Nat) (A : Option Addr) (c : Nat) (m : Nat) (x : Col) (right : Int) (right2 : List Int) (r : Int)
    (hp : Pre X w0 [.blk b 28 (Col.cells x), .blk b2 2 [.int .i64 right], .blk b3 25 [.slice A m c]] [IntsAt A c m right2]) (H : impl_Colouring_code__IsClique_1.f k x right right2 = some r) :
    Calls Try.prog 52 [.pointer (some ⟨b, 0, none⟩), .func (.func 53) [].toArray [.pointer (some ⟨b, 0, none⟩), .pointer (some ⟨b2, 0, none⟩), .pointer (some ⟨b3, 0, none⟩)].toArray].toArray w0 (Ret fun v w => v = .int .i64 r ∧ Post X (fps [.blk b 28 (Col.cells x), .blk b2 2 [.int .i64 right], .blk b3 25 [.slice A m c]]) w0 [.blk b 28 (Col.cells x), .blk b2 2 [.int .i64 right], .blk b3 25 [.slice A m c]] [] w) := by
  unfold impl_Colouring_code__IsClique_1.f at H
  refine enterM (n := 13) hp Try.func52 rfl rfl (Nat.le_of_ble_eq_true rfl) fun a w ht hm => ?_
  refine wp_seq ?_
  refine wpr ?_
  refine wpl rfl rfl ht (ev_assign ht rfl rfl) ?_
  intro a ht
  refine wpList_nil ?_
  refine then_normal ?_
  refine wp_seq ?_
  refine wp_block ?_
  refine wp_seq ?_
  refine wpr ?_
  refine wpl rfl rfl ht (ev_move ht rfl rfl) ?_
  intro a ht
  obtain ⟨t1, et1, H⟩ := bind_get H
  have hcall := impl_Colouring_isColouring.calls k _ _ b x _ ((fun (hq : Ms _ _ _ ([.blk b 28 (Col.cells x)] ++ [.blk b2 2 [.int .i64 right], .blk b3 25 [.slice A m c]]) _ _) => hq.lend (φp := []) (allRO_nil)) (hm.pick (own' := [.blk b 28 (Col.cells x)] ++ [.blk b2 2 [.int .i64 right], .blk b3 25 [.slice A m c]]) [0, 1, 2] rfl (by decide))) et1
  refine wpl_call _ rfl rfl ht rfl rfl rfl rfl can_101 hcall ?_
  clear hcall
  rintro _ w ⟨rfl, hpost⟩ a ht
  replace hm := (hm.pick (own' := [.blk b 28 (Col.cells x)] ++ [.blk b2 2 [.int .i64 right], .blk b3 25 [.slice A m c]]) [0, 1, 2] rfl (by decide)).backL hpost
  clear hpost
  refine wpl rfl rfl ht (ev_not ht rfl rfl) ?_
  intro a ht
  refine wpl rfl rfl ht (ev_assign ht rfl rfl) ?_
  intro a ht
  refine wpList_nil ?_
  refine then_normal ?_
  by_cases h2 : t1 = true
  · replace H := ite_yes h2 H
    refine wpc_no ht rfl (not_t h2) ?_
    refine wp_seq ?_
    refine wpr ?_
    refine wpl rfl rfl ht (ev_move ht rfl rfl) ?_
    intro a ht
    obtain ⟨t3, et3, H⟩ := bind_get H
    have hcall := impl_IsClique_1.calls k _ _ b b2 b3 A c m x right right2 _ ((fun (hq : Ms _ _ _ ([.blk b 28 (Col.cells x), .blk b2 2 [.int .i64 right], .blk b3 25 [.slice A m c]] ++ []) _ _) => hq.lend (φp := [IntsAt A c m right2]) (allRO_cons (hq.lendFact 0 rfl) (allRO_nil))) (hm.pick (own' := [.blk b 28 (Col.cells x), .blk b2 2 [.int .i64 right], .blk b3 25 [.slice A m c]] ++ []) [0, 1, 2] rfl (by decide))) et3
    refine wpl_call _ rfl rfl ht rfl rfl rfl rfl can_53 hcall ?_
    clear hcall
    rintro _ w ⟨rfl, hpost⟩ a ht
    replace hm := (hm.pick (own' := [.blk b 28 (Col.cells x), .blk b2 2 [.int .i64 right], .blk b3 25 [.slice A m c]] ++ []) [0, 1, 2] rfl (by decide)).backL hpost
    clear hpost
    refine wpl rfl rfl ht (ev_not ht rfl rfl) ?_
    intro a ht
    refine wpl rfl rfl ht (ev_assign ht rfl rfl) ?_
    intro a ht
    refine wpList_nil ?_
    refine then_normal ?_
    by_cases h4 : t3 = true
    · replace H := ite_yes h4 H
      refine wpc_no ht rfl (not_t h4) ?_
      refine wp_skip ?_
      refine blk_normal ?_
      refine then_normal ?_
      refine wp_seq ?_
      refine wpr ?_
      refine wpl rfl rfl ht (ev_assign ht rfl rfl) ?_
      intro a ht
      refine wpList_nil ?_
      refine then_normal ?_
      refine wp_ret ?_
      have hres := ht.res (P := Try.prog) (w := w) (rs := [.tmp 4]) (vs := [.int .i64 0]) (.tmp rfl .nil)
      obtain rfl := Option.some.inj H
      exact leave ht rfl hres ⟨rfl, ((hm.pick [0, 1, 2] rfl (by decide)).pickφ [] rfl).post fun _ h => h⟩
    · replace H := ite_no h4 H
      refine wpc_yes ht rfl (not_f (Bool.eq_false_iff.mpr h4)) ?_
      refine wp_seq ?_
      refine wpr ?_
      refine wpl rfl rfl ht (ev_assign ht rfl rfl) ?_
      intro a ht
      refine wpList_nil ?_
      refine then_normal ?_
      refine wp_ret ?_
      refine blk_ret ?_
      refine then_ret ?_
      have hres := ht.res (P := Try.prog) (w := w) (rs := [.tmp 4]) (vs := [.int .i64 2]) (.tmp rfl .nil)
      obtain rfl := Option.some.inj H
      exact leave ht rfl hres ⟨rfl, ((hm.pick [0, 1, 2] rfl (by decide)).pickφ [] rfl).post fun _ h => h⟩
  · replace H := ite_no h2 H
    refine wpc_yes ht rfl (not_f (Bool.eq_false_iff.mpr h2)) ?_
    refine wp_seq ?_
    refine wpr ?_
    refine wpl rfl rfl ht (ev_assign ht rfl rfl) ?_
    intro a ht
    refine wpList_nil ?_
    refine then_normal ?_
    refine wp_ret ?_
    refine blk_ret ?_
    refine then_ret ?_
    have hres := ht.res (P := Try.prog) (w := w) (rs := [.tmp 4]) (vs := [.int .i64 1]) (.tmp rfl .nil)
    obtain rfl := Option.some.inj H
    exact leave ht rfl hres ⟨rfl, ((hm.pick [0, 1, 2] rfl (by decide)).pickφ [] rfl).post fun _ h => h⟩

/-! ### impl_number: function 127 (loop.example/g01362/impl.number) -/
def impl_number.f (i : Int) (j : Int) : Option (Int) := some (w64 ((w64 (Int.tdiv (w64 ((max i j) * (w64 ((max i j) - 1)))) 2)) + (min i j)))
set_option maxRecDepth 100000 in
set_option maxHeartbeats 1000000 in
theorem impl_number.calls (X : List Nat) (w0 : World)  (i : Int) (j : Int) (r : Int)
    (hp : Pre X w0 [] []) (H : impl_number.f i j = some r) :
    Calls Try.prog 127 [.int .i64 i, .int .i64 j].toArray w0 (Ret fun v w => v = .int .i64 r ∧ Post X (fps []) w0 [] [] w) := by
  unfold impl_number.f at H
  refine enterM (n := 18) hp Try.func127 rfl rfl (Nat.le_of_ble_eq_true rfl) fun a w ht hm => ?_
  refine wp_seq ?_
  refine wpr ?_
  refine wpl rfl rfl ht (ev_assign ht rfl rfl) ?_
  intro a ht
  refine wpList_nil ?_
  refine then_normal ?_
  refine wp_seq ?_
  refine wpr ?_
  refine wpl rfl rfl ht (ev_move ht rfl rfl) ?_
  intro a ht
  refine wpl rfl rfl ht (ev_move ht rfl rfl) ?_
  intro a ht
  refine wpl rfl rfl ht (ev_min ht rfl rfl rfl) ?_
  intro a ht
  refine wpl rfl rfl ht (ev_move ht rfl rfl) ?_
  intro a ht
  refine wpl rfl rfl ht (ev_move ht rfl rfl) ?_
  intro a ht
  refine wpl rfl rfl ht (ev_max ht rfl rfl rfl) ?_
  intro a ht
  refine wpl rfl rfl ht (ev_assign ht rfl rfl) ?_
  intro a ht
  refine wpl rfl rfl ht (ev_assign ht rfl rfl) ?_
  intro a ht
  refine wpList_nil ?_
  refine then_normal ?_
  refine wp_seq ?_
  refine wpr ?_
  refine wpl rfl rfl ht (ev_move ht rfl rfl) ?_
  intro a ht
  refine wpl rfl rfl ht (ev_move ht rfl rfl) ?_
  intro a ht
  refine wpl rfl rfl ht (ev_arith ht rfl rfl rfl rfl) ?_
  intro a ht
  refine wpl rfl rfl ht (ev_arith ht rfl rfl rfl rfl) ?_
  intro a ht
  refine wpl rfl rfl ht (ev_quo ht rfl rfl rfl (by decide)) ?_
  intro a ht
  refine wpl rfl rfl ht (ev_move ht rfl rfl) ?_
  intro a ht
  refine wpl rfl rfl ht (ev_arith ht rfl rfl rfl rfl) ?_
  intro a ht
  refine wpl rfl rfl ht (ev_assign ht rfl rfl) ?_
  intro a ht
  refine wpList_nil ?_
  refine then_normal ?_
  refine wp_ret ?_
  have hres := ht.res (P := Try.prog) (w := w) (rs := [.tmp 4]) (vs := [.int .i64 (w64 ((w64 (Int.tdiv (w64 ((max i j) * (w64 ((max i j) - 1)))) 2)) + (min i j)))]) (.tmp rfl .nil)
  obtain rfl := Option.some.inj H
  exact leave ht rfl hres ⟨rfl, ((hm.pick [] rfl (by decide)).pickφ [] rfl).post fun _ h => h⟩

/-! ### impl_Colouring_at: function 118 ((*loop.example/g01362/impl.Colouring).at) -/
def impl_Colouring_at.f (x : Col) (i : Int) (j : Int) : Option (Int) := (impl_number.f i j).bind fun t1 => (getB 136 x.e t1).bind fun t2 => some (w64 t2)
set_option maxRecDepth 100000 in
set_option maxHeartbeats 1000000 in
theorem impl_Colouring_at.calls (X : List Nat) (w0 : World) (b : Nat) (x : Col) (i : Int) (j : Int) (r : Int)
    (hp : Pre X w0 [.blk b 28 (Col.cells x)] []) (H : impl_Colouring_at.f x i j = some r) :
    Calls Try.prog 118 [.pointer (some ⟨b, 0, none⟩), .int .i64 i, .int .i64 j].toArray w0 (Ret fun v w => v = .int .i64 r ∧ Post X (fps [.blk b 28 (Col.cells x)]) w0 [.blk b 28 (Col.cells x)] [] w) := by
  unfold impl_Colouring_at.f at H
  refine enterM (n := 16) hp Try.func118 rfl rfl (Nat.le_of_ble_eq_true rfl) fun a w ht hm => ?_
  refine wp_seq ?_
  refine wpr ?_
  refine wpl rfl rfl ht (ev_assign ht rfl rfl) ?_
  intro a ht
  refine wpList_nil ?_
  refine then_normal ?_
  refine wp_seq ?_
  refine wph_begin (fun w => Ms X (fps [.blk b 28 (Col.cells x)]) w0 [.blk b 28 (Col.cells x)] [] w) mixed ?_
  replace hm := hm.drew
  have hS : Ms X (fps [.blk b 28 (Col.cells x)]) w0 [.blk b 28 (Col.cells x)] [] w.drew := (hm.pick [0] rfl (by decide)).pickφ [] rfl
  generalize w.drew = w at hm hS ⊢
  refine wph_take (i := 0) rfl (by kernel_rfl) (by kernel_rfl) (by kernel_rfl) (fun _ _ _ h => h) rfl ht hS (wanted_plain rfl) (fun w hm => ev_move ht rfl rfl) ?_
  intro a ht
  refine wph_take (i := 1) rfl (by kernel_rfl) (by kernel_rfl) (by kernel_rfl) (fun _ _ _ h => h) rfl ht hS (wanted_plain rfl) (fun w hm => ev_move ht rfl rfl) ?_
  intro a ht
  refine wph_take (i := 2) rfl (by kernel_rfl) (by kernel_rfl) (by kernel_rfl) (fun _ _ _ h => h) rfl ht hS (wanted_plain rfl) (fun w hm => ev_move ht rfl rfl) ?_
  intro a ht
  refine wph_take (i := 4) rfl (by kernel_rfl) (by kernel_rfl) (by kernel_rfl) (fun _ _ _ h => h) rfl ht hS (wanted_plain rfl) (fun w hm => ev_nilCheck ht rfl rfl) ?_
  intro a ht
  refine wph_take (i := 5) rfl (by kernel_rfl) (by kernel_rfl) (by kernel_rfl) (fun _ _ _ h => h) rfl ht hS (wanted_plain rfl) (fun w hm => ev_fieldAddr ht rfl rfl fo_28_2) ?_
  intro a ht
  refine wph_one (i := 3) (by kernel_rfl) (wph_step rfl ?_)
  obtain ⟨t1, et1, H⟩ := bind_get H
  have hcall := impl_number.calls _ _ i j _ ((fun (hq : Ms _ _ _ ([] ++ [.blk b 28 (Col.cells x)]) _ _) => hq.lend (φp := []) (allRO_nil)) (hm.pick (own' := [] ++ [.blk b 28 (Col.cells x)]) [0] rfl (by decide))) et1
  refine wpl_call _ rfl rfl ht rfl rfl rfl rfl can_127 hcall ?_
  clear hcall
  rintro _ w ⟨rfl, hpost⟩ a ht
  replace hm := (hm.pick (own' := [] ++ [.blk b 28 (Col.cells x)]) [0] rfl (by decide)).backL hpost
  clear hpost
  have hS : Ms X (fps [.blk b 28 (Col.cells x)]) w0 [.blk b 28 (Col.cells x)] [] w := (hm.pick [0] rfl (by decide)).pickφ [] rfl
  refine wpList_nil (qn ⟨hS, ?_⟩)
  obtain ⟨t2, et2, H⟩ := bind_get H
  refine wph_take (i := 6) rfl (by kernel_rfl) (by kernel_rfl) (by kernel_rfl) (fun _ _ _ h => h) rfl ht hS (wanted_plain rfl) (fun w hm => ev_indexAddr_arr ht rfl rfl rfl ar_22 (getB_lo et2) (getB_hi et2)) ?_
  intro a ht
  refine wph_take (i := 7) rfl (by kernel_rfl) (by kernel_rfl) (by kernel_rfl) (fun _ _ _ h => h) rfl ht hS (wanted_plain rfl) (fun w hm => ev_load ht rfl rfl sc_5 (hm.blk_cell 0 rfl (Col.get et2))) ?_
  intro a ht
  refine wph_take (i := 8) rfl (by kernel_rfl) (by kernel_rfl) (by kernel_rfl) (fun _ _ _ h => h) rfl ht hS (wanted_plain rfl) (fun w hm => ev_convert ht rfl rfl und_5 und_2) ?_
  intro a ht
  refine wph_take (i := 9) rfl (by kernel_rfl) (by kernel_rfl) (by kernel_rfl) (fun _ _ _ h => h) rfl ht hS (wanted_plain rfl) (fun w hm => ev_assign ht rfl rfl) ?_
  intro a ht
  refine wph_done (by kernel_rfl) ?_
  refine then_normal ?_
  refine wp_ret ?_
  have hres := ht.res (P := Try.prog) (w := w) (rs := [.tmp 6]) (vs := [.int .i64 (w64 t2)]) (.tmp rfl .nil)
  obtain rfl := Option.some.inj H
  exact leave ht rfl hres ⟨rfl, ((hm.pick [0] rfl (by decide)).pickφ [] rfl).post fun _ h => h⟩

/-! ### impl_Colouring_joins: function 121 ((*loop.example/g01362/impl.Colouring).joins) -/
def impl_Colouring_joins.f (x : Col) (i : Int) (j : Int) (c : Int) : Option (Bool) := if i ≠ j then ((impl_Colouring_at.f x i j).bind fun t2 => some (decide (t2 = c))) else (some false)
set_option maxRecDepth 100000 in
set_option maxHeartbeats 1000000 in
theorem impl_Colouring_joins.calls (X : List Nat) (w0 : World) (b : Nat) (x : Col) (i : Int) (j : Int) (c : Int) (r : Bool)
    (hp : Pre X w0 [.blk b 28 (Col.cells x)] []) (H : impl_Colouring_joins.f x i j c = some r) :
    Calls Try.prog 121 [.pointer (some ⟨b, 0, none⟩), .int .i64 i, .int .i64 j, .int .i64 c].toArray w0 (Ret fun v w => v = .bool r ∧ Post X (fps [.blk b 28 (Col.cells x)]) w0 [.blk b 28 (Col.cells x)] [] w) := by
  unfold impl_Colouring_joins.f at H
  refine enterM (n := 20) hp Try.func121 rfl rfl (Nat.le_of_ble_eq_true rfl) fun a w ht hm => ?_
  refine wp_seq ?_
  refine wpr ?_
  refine wpl rfl rfl ht (ev_assign ht rfl rfl) ?_
  intro a ht
  refine wpList_nil ?_
  refine then_normal ?_
  refine wp_seq ?_
  refine wpr ?_
  refine wpl rfl rfl ht (ev_move ht rfl rfl) ?_
  intro a ht
  refine wpl rfl rfl ht (ev_move ht rfl rfl) ?_
  intro a ht
  refine wpl rfl rfl ht (ev_cmp ht rfl rfl rfl rfl) ?_
  intro a ht
  refine wpl rfl rfl ht (ev_move ht rfl rfl) ?_
  intro a ht
  by_cases h1 : i ≠ j
  · replace H := ite_yes h1 H
    refine wpl_yes rfl ht rfl ((decide_eq_true h1)) ?_
    refine wpl rfl rfl ht (ev_move ht rfl rfl) ?_
    intro a ht
    refine wpl_yes rfl ht rfl ((decide_eq_true h1)) ?_
    refine wpl rfl rfl ht (ev_move ht rfl rfl) ?_
    intro a ht
    refine wpl_yes rfl ht rfl ((decide_eq_true h1)) ?_
    refine wpl rfl rfl ht (ev_move ht rfl rfl) ?_
    intro a ht
    refine wpl_yes rfl ht rfl ((decide_eq_true h1)) ?_
    obtain ⟨t2, et2, H⟩ := bind_get H
    have hcall := impl_Colouring_at.calls _ _ b x i j _ ((fun (hq : Ms _ _ _ ([.blk b 28 (Col.cells x)] ++ []) _ _) => hq.lend (φp := []) (allRO_nil)) (hm.pick (own' := [.blk b 28 (Col.cells x)] ++ []) [0] rfl (by decide))) et2
    refine wpl_call _ rfl rfl ht rfl rfl rfl rfl can_118 hcall ?_
    clear hcall
    rintro _ w ⟨rfl, hpost⟩ a ht
    replace hm := (hm.pick (own' := [.blk b 28 (Col.cells x)] ++ []) [0] rfl (by decide)).backL hpost
    clear hpost
    refine wpl_yes rfl ht rfl ((decide_eq_true h1)) ?_
    refine wpl rfl rfl ht (ev_move ht rfl rfl) ?_
    intro a ht
    refine wpl_yes rfl ht rfl ((decide_eq_true h1)) ?_
    refine wpl rfl rfl ht (ev_cmp ht rfl rfl rfl rfl) ?_
    intro a ht
    refine wpl rfl rfl ht (ev_pick_yes ht rfl rfl (decide_eq_true h1) rfl) ?_
    intro a ht
    refine wpl rfl rfl ht (ev_assign ht rfl rfl) ?_
    intro a ht
    refine wpList_nil ?_
    refine then_normal ?_
    refine wp_ret ?_
    have hres := ht.res (P := Try.prog) (w := w) (rs := [.tmp 8]) (vs := [.bool (decide (t2 = c))]) (.tmp rfl .nil)
    obtain rfl := Option.some.inj H
    exact leave ht rfl hres ⟨rfl, ((hm.pick [0] rfl (by decide)).pickφ [] rfl).post fun _ h => h⟩
  · replace H := ite_no h1 H
    refine wpl_no rfl rfl ht rfl (by rw [(decide_eq_false h1)]; decide) ?_
    intro a ht
    refine wpl_no rfl rfl ht rfl (by rw [(decide_eq_false h1)]; decide) ?_
    intro a ht
    refine wpl_no rfl rfl ht rfl (by rw [(decide_eq_false h1)]; decide) ?_
    intro a ht
    refine wpl_no rfl rfl ht rfl (by rw [(decide_eq_false h1)]; decide) ?_
    intro a ht
    refine wpl_no rfl rfl ht rfl (by rw [(decide_eq_false h1)]; decide) ?_
    intro a ht
    refine wpl_no rfl rfl ht rfl (by rw [(decide_eq_false h1)]; decide) ?_
    intro a ht
    refine wpl rfl rfl ht (ev_pick_no ht rfl rfl (decide_eq_false h1) rfl) ?_
    intro a ht
    refine wpl rfl rfl ht (ev_assign ht rfl rfl) ?_
    intro a ht
    refine wpList_nil ?_
    refine then_normal ?_
    refine wp_ret ?_
    have hres := ht.res (P := Try.prog) (w := w) (rs := [.tmp 8]) (vs := [.bool false]) (.tmp rfl .nil)
    obtain rfl := Option.some.inj H
    exact leave ht rfl hres ⟨rfl, ((hm.pick [0] rfl (by decide)).pickφ [] rfl).post fun _ h => h⟩

/-! ### impl_Colouring_goesWith_1: function 120 ((*loop.example/g01362/impl.Colouring).goesWith$1) -/
def impl_Colouring_goesWith_1.f (i : Int) (x : Col) (x2 : Int) (x3 : Int) : Option (Bool) := (impl_Colouring_joins.f x i x2 x3).bind fun t1 => some !t1
set_option maxRecDepth 100000 in
set_option maxHeartbeats 1000000 in
theorem impl_Colouring_goesWith_1.calls (X : List Nat) (w0 : World) (b : Nat) (b2 : Nat) (b3 : Nat) (b4 : Nat) (i : Int) (x : Col) (x2 : Int) (x3 : Int) (r : Bool)
    (hp : Pre X w0 [.blk b 87 [.pointer (some ⟨b2, 0, none⟩)], .blk b2 28 (Col.cells x), .blk b3 2 [.int .i64 x2], .blk b4 2 [.int .i64 x3]] []) (H : impl_Colouring_goesWith_1.f i x x2 x3 = some r) :
    Calls Try.prog 120 [.int .i64 i, .pointer (some ⟨b, 0, none⟩), .pointer (some ⟨b3, 0, none⟩), .pointer (some ⟨b4, 0, none⟩)].toArray w0 (Ret fun v w => v = .bool r ∧ Post X (fps [.blk b 87 [.pointer (some ⟨b2, 0, none⟩)], .blk b2 28 (Col.cells x), .blk b3 2 [.int .i64 x2], .blk b4 2 [.int .i64 x3]]) w0 [.blk b 87 [.pointer (some ⟨b2, 0, none⟩)], .blk b2 28 (Col.cells x), .blk b3 2 [.int .i64 x2], .blk b4 2 [.int .i64 x3]] [] w) := by
  unfold impl_Colouring_goesWith_1.f at H
  refine enterM (n := 12) hp Try.func120 rfl rfl (Nat.le_of_ble_eq_true rfl) fun a w ht hm => ?_
  refine wp_seq ?_
  refine wpr ?_
  refine wpl rfl rfl ht (ev_assign ht rfl rfl) ?_
  intro a ht
  refine wpList_nil ?_
  refine then_normal ?_
  refine wp_seq ?_
  refine wpr ?_
  refine wpl rfl rfl ht (ev_load ht rfl rfl sc_87 (hm.blk_cell 0 rfl rfl)) ?_
  intro a ht
  refine wpl rfl rfl ht (ev_move ht rfl rfl) ?_
  intro a ht
  refine wpl rfl rfl ht (ev_load ht rfl rfl sc_2 (hm.blk_cell 2 rfl rfl)) ?_
  intro a ht
  refine wpl rfl rfl ht (ev_load ht rfl rfl sc_2 (hm.blk_cell 3 rfl rfl)) ?_
  intro a ht
  obtain ⟨t1, et1, H⟩ := bind_get H
  have hcall := impl_Colouring_joins.calls _ _ b2 x i x2 x3 _ ((fun (hq : Ms _ _ _ ([.blk b2 28 (Col.cells x)] ++ [.blk b 87 [.pointer (some ⟨b2, 0, none⟩)], .blk b3 2 [.int .i64 x2], .blk b4 2 [.int .i64 x3]]) _ _) => hq.lend (φp := []) (allRO_nil)) (hm.pick (own' := [.blk b2 28 (Col.cells x)] ++ [.blk b 87 [.pointer (some ⟨b2, 0, none⟩)], .blk b3 2 [.int .i64 x2], .blk b4 2 [.int .i64 x3]]) [1, 0, 2, 3] rfl (by decide))) et1
  refine wpl_call _ rfl rfl ht rfl rfl rfl rfl can_121 hcall ?_
  clear hcall
  rintro _ w ⟨rfl, hpost⟩ a ht
  replace hm := (hm.pick (own' := [.blk b2 28 (Col.cells x)] ++ [.blk b 87 [.pointer (some ⟨b2, 0, none⟩)], .blk b3 2 [.int .i64 x2], .blk b4 2 [.int .i64 x3]]) [1, 0, 2, 3] rfl (by decide)).backL hpost
  clear hpost
  refine wpl rfl rfl ht (ev_not ht rfl rfl) ?_
  intro a ht
  refine wpl rfl rfl ht (ev_assign ht rfl rfl) ?_
  intro a ht
  refine wpList_nil ?_
  refine then_normal ?_
  refine wp_ret ?_
  have hres := ht.res (P := Try.prog) (w := w) (rs := [.tmp 5]) (vs := [.bool !t1]) (.tmp rfl .nil)
  obtain rfl := Option.some.inj H
  exact leave ht rfl hres ⟨rfl, ((hm.pick [1, 0, 2, 3] rfl (by decide)).pickφ [] rfl).post fun _ h => h⟩

/-! ### slices_IndexFunc_int64_int64__Colouring_goesWith_1: function 128 (slices.IndexFunc[[]int64,int64]) -/
def slices_IndexFunc_int64_int64__Colouring_goesWith_1.l0 : Nat → List Int → Col → Int → Int → Int → Option (Int)
  | 0, _, _, _, _, _ => none
  | q1 + 1, s, f, f2, f3, xs0_1 => if xs0_1 < (s.length : Int) then ((getI s xs0_1).bind fun t3 => (impl_Colouring_goesWith_1.f t3 f f2 f3).bind fun t4 => if t4 = true then (some xs0_1) else (slices_IndexFunc_int64_int64__Colouring_goesWith_1.l0 q1 s f f2 f3 (w64 (xs0_1 + 1)))) else (some (-1))
def slices_IndexFunc_int64_int64__Colouring_goesWith_1.f (k : Nat) (s : List Int) (f : Col) (f2 : Int) (f3 : Int) : Option (Int) := slices_IndexFunc_int64_int64__Colouring_goesWith_1.l0 k s f f2 f3 0
set_option maxRecDepth 100000 in
set_option maxHeartbeats 1000000 in
theorem slices_IndexFunc_int64_int64__Colouring_goesWith_1.calls (k : Nat) (X : List Nat) (w0 : World) (A : Option Addr) (c : Nat) (m : Nat) (b : Nat) (b2 : Nat) (b3 : Nat) (b4 : Nat) (s : List Int) (f : Col) (f2 : Int) (f3 : Int) (r : Int)
    (hp : Pre X w0 [.blk b 87 [.pointer (some ⟨b2, 0, none⟩)], .blk b2 28 (Col.cells f), .blk b3 2 [.int .i64 f2], .blk b4 2 [.int .i64 f3]] [IntsAt A c m s]) (H : slices_IndexFunc_int64_int64__Colouring_goesWith_1.f k s f f2 f3 = some r) :
    Calls Try.prog 128 [.slice A m c, .func (.func 120) [].toArray [.pointer (some ⟨b, 0, none⟩), .pointer (some ⟨b3, 0, none⟩), .pointer (some ⟨b4, 0, none⟩)].toArray].toArray w0 (Ret fun v w => v = .int .i64 r ∧ Post X (fps [.blk b 87 [.pointer (some ⟨b2, 0, none⟩)], .blk b2 28 (Col.cells f), .blk b3 2 [.int .i64 f2], .blk b4 2 [.int .i64 f3]]) w0 [.blk b 87 [.pointer (some ⟨b2, 0, none⟩)], .blk b2 28 (Col.cells f), .blk b3 2 [.int .i64 f2], .blk b4 2 [.int .i64 f3]] [] w) := by
  unfold slices_IndexFunc_int64_int64__Colouring_goesWith_1.f at H
  refine enterM (n := 19) hp Try.func128 rfl rfl (Nat.le_of_ble_eq_true rfl) fun a w ht hm => ?_
  refine wp_seq ?_
  refine wpr ?_
  refine wpl rfl rfl ht (ev_assign ht rfl rfl) ?_
  intro a ht
  refine wpList_nil ?_
  refine then_normal ?_
  refine wp_seq ?_
  refine wp_seq ?_
  refine wpr ?_
  refine wpl rfl rfl ht (ev_move ht rfl rfl) ?_
  intro a ht
  refine wpl rfl rfl ht (ev_len_of ht rfl rfl und_25 (hm.fact (φ := IntsAt A c m s) 0 rfl)) ?_
  intro a ht
  refine wpl rfl rfl ht (ev_move ht rfl rfl) ?_
  intro a ht
  refine wpList_nil ?_
  refine then_normal ?_
  refine wp_block ?_
  refine wpLoop (fun q a w => ∃ (xs0_1 : Int), slices_IndexFunc_int64_int64__Colouring_goesWith_1.l0 q s f f2 f3 xs0_1 = some r ∧ q ≤ k ∧ Tm 19 [(0, .slice A m c), (1, .func (.func 120) [].toArray [.pointer (some ⟨b, 0, none⟩), .pointer (some ⟨b3, 0, none⟩), .pointer (some ⟨b4, 0, none⟩)].toArray), (4, .int .i64 0), (7, .int .i64 (s.length : Int)), (8, .int .i64 xs0_1)] a ∧ Ms X (fps [.blk b 87 [.pointer (some ⟨b2, 0, none⟩)], .blk b2 28 (Col.cells f), .blk b3 2 [.int .i64 f2], .blk b4 2 [.int .i64 f3]]) w0 [.blk b 87 [.pointer (some ⟨b2, 0, none⟩)], .blk b2 28 (Col.cells f), .blk b3 2 [.int .i64 f2], .blk b4 2 [.int .i64 f3]] [IntsAt A c m s] w) (k0 := k) ⟨0, H, Nat.le_refl _, ht.sub ⟨rfl, rfl, rfl, rfl, rfl, trivial⟩, (hm.pick [0, 1, 2, 3] rfl (by decide)).pickφ [0] rfl⟩ ?_
  clear H ht hm
  intro q1 a w hJ
  obtain ⟨xs0_1, H, hqq1, ht, hm⟩ := hJ
  cases q1 with
  | zero => cases H
  | succ q1 =>
  rw [slices_IndexFunc_int64_int64__Colouring_goesWith_1.l0] at H
  refine wp_seq ?_
  refine wpr ?_
  refine wpl rfl rfl ht (ev_cmp ht rfl rfl rfl rfl) ?_
  intro a ht
  refine wpList_nil ?_
  refine then_normal ?_
  refine wp_seq ?_
  by_cases h2 : xs0_1 < (s.length : Int)
  · replace H := ite_yes h2 H
    refine wpc_yes ht rfl (decide_eq_true h2) ?_
    refine wp_skip ?_
    refine then_normal ?_
    refine wp_seq ?_
    refine wp_block ?_
    refine wp_seq ?_
    refine wpr ?_
    refine wpl rfl rfl ht (ev_move ht rfl rfl) ?_
    intro a ht
    refine wpl rfl rfl ht (ev_assign ht rfl rfl) ?_
    intro a ht
    refine wpList_nil ?_
    refine then_normal ?_
    refine wp_seq ?_
    refine wpr ?_
    refine wpl rfl rfl ht (ev_move ht rfl rfl) ?_
    intro a ht
    refine wpl rfl rfl ht (ev_move ht rfl rfl) ?_
    intro a ht
    refine wpl rfl rfl ht (ev_move ht rfl rfl) ?_
    intro a ht
    obtain ⟨t3, et3, H⟩ := bind_get H
    refine wpl rfl rfl ht (ev_index_ints ht rfl rfl rfl so_25 (hm.fact (φ := IntsAt A c m s) 0 rfl) et3) ?_
    intro a ht
    refine wpl rfl rfl ht (ev_load ht rfl rfl sc_2 (RowAt.cell (hm.fact (φ := IntsAt A c m s) 0 rfl) (ints_get et3) rfl)) ?_
    intro a ht
    obtain ⟨t4, et4, H⟩ := bind_get H
    have hcall := impl_Colouring_goesWith_1.calls _ _ b b2 b3 b4 t3 f f2 f3 _ ((fun (hq : Ms _ _ _ ([.blk b 87 [.pointer (some ⟨b2, 0, none⟩)], .blk b2 28 (Col.cells f), .blk b3 2 [.int .i64 f2], .blk b4 2 [.int .i64 f3]] ++ []) _ _) => hq.lend (φp := []) (allRO_nil)) (hm.pick (own' := [.blk b 87 [.pointer (some ⟨b2, 0, none⟩)], .blk b2 28 (Col.cells f), .blk b3 2 [.int .i64 f2], .blk b4 2 [.int .i64 f3]] ++ []) [0, 1, 2, 3] rfl (by decide))) et4
    refine wpl_call _ rfl rfl ht rfl rfl rfl rfl can_120 hcall ?_
    clear hcall
    rintro _ w ⟨rfl, hpost⟩ a ht
    replace hm := (hm.pick (own' := [.blk b 87 [.pointer (some ⟨b2, 0, none⟩)], .blk b2 28 (Col.cells f), .blk b3 2 [.int .i64 f2], .blk b4 2 [.int .i64 f3]] ++ []) [0, 1, 2, 3] rfl (by decide)).backL hpost
    clear hpost
    refine wpList_nil ?_
    refine then_normal ?_
    by_cases h5 : t4 = true
    · replace H := ite_yes h5 H
      refine wpc_yes ht rfl h5 ?_
      refine wp_seq ?_
      refine wpr ?_
      refine wpl rfl rfl ht (ev_move ht rfl rfl) ?_
      intro a ht
      refine wpl rfl rfl ht (ev_assign ht rfl rfl) ?_
      intro a ht
      refine wpList_nil ?_
      refine then_normal ?_
      refine wp_ret ?_
      refine blk_ret ?_
      refine then_ret ?_
      refine then_ret ?_
      refine blk_ret ?_
      refine then_ret ?_
      have hres := ht.res (P := Try.prog) (w := w) (rs := [.tmp 4]) (vs := [.int .i64 xs0_1]) (.tmp rfl .nil)
      obtain rfl := Option.some.inj H
      exact leave ht rfl hres ⟨rfl, ((hm.pick [0, 1, 2, 3] rfl (by decide)).pickφ [] rfl).post fun _ h => h⟩
    · replace H := ite_no h5 H
      refine wpc_no ht rfl (Bool.eq_false_iff.mpr h5) ?_
      refine wp_skip ?_
      refine blk_normal ?_
      refine then_normal ?_
      refine wpr ?_
      refine wpl rfl rfl ht (ev_arith ht rfl rfl rfl rfl) ?_
      intro a ht
      refine wpl rfl rfl ht (ev_move ht rfl rfl) ?_
      intro a ht
      refine wpList_nil ?_
      exact then_normal ⟨q1, by omega, (w64 (xs0_1 + 1)), H, by omega, ht.sub ⟨rfl, rfl, rfl, rfl, rfl, trivial⟩, (hm.pick [0, 1, 2, 3] rfl (by decide)).pickφ [0] rfl⟩
  · replace H := ite_no h2 H
    refine wpc_no ht rfl (decide_eq_false h2) ?_
    refine wp_exit ?_
    refine then_exit ?_
    refine then_exit ?_
    refine blk_hit ?_
    refine then_normal ?_
    refine wp_seq ?_
    refine wpr ?_
    refine wpl rfl rfl ht (ev_assign ht rfl rfl) ?_
    intro a ht
    refine wpList_nil ?_
    refine then_normal ?_
    refine wp_ret ?_
    have hres := ht.res (P := Try.prog) (w := w) (rs := [.tmp 4]) (vs := [.int .i64 (-1)]) (.tmp rfl .nil)
    obtain rfl := Option.some.inj H
    exact leave ht rfl hres ⟨rfl, ((hm.pick [0, 1, 2, 3] rfl (by decide)).pickφ [] rfl).post fun _ h => h⟩

/-! ### slices_ContainsFunc_int64_int64__Colouring_goesWith_1: function 119 (slices.ContainsFunc[[]int64,int64]) -/
def slices_ContainsFunc_int64_int64__Colouring_goesWith_1.f (k : Nat) (s : List Int) (f : Col) (f2 : Int) (f3 : Int) : Option (Bool) := (slices_IndexFunc_int64_int64__Colouring_goesWith_1.f k s f f2 f3).bind fun t1 => some (decide (t1 ≥ 0))
set_option maxRecDepth 100000 in
set_option maxHeartbeats 1000000 in
theorem slices_ContainsFunc_int64_int64__Colouring_goesWith_1.calls (k : Nat) (X : List Nat) (w0 : World) (A : Option Addr) (c : Nat) (m : Nat) (b : Nat) (b2 : Nat) (b3 : Nat) (b4 : Nat) (s : List Int) (f : Col) (f2 : Int) (f3 : Int) (r : Bool)
    (hp : Pre X w0 [.blk b 87 [.pointer (some ⟨b2, 0, none⟩)], .blk b2 28 (Col.cells f), .blk b3 2 [.int .i64 f2], .blk b4 2 [.int .i64 f3]] [IntsAt A c m s]) (H : slices_ContainsFunc_int64_int64__Colouring_goesWith_1.f k s f f2 f3 = some r) :
    Calls Try.prog 119 [.slice A m c, .func (.func 120) [].toArray [.pointer (some ⟨b, 0, none⟩), .pointer (some ⟨b3, 0, none⟩), .pointer (some ⟨b4, 0, none⟩)].toArray].toArray w0 (Ret fun v w => v = .bool r ∧ Post X (fps [.blk b 87 [.pointer (some ⟨b2, 0, none⟩)], .blk b2 28 (Col.cells f), .blk b3 2 [.int .i64 f2], .blk b4 2 [.int .i64 f3]]) w0 [.blk b 87 [.pointer (some ⟨b2, 0, none⟩)], .blk b2 28 (Col.cells f), .blk b3 2 [.int .i64 f2], .blk b4 2 [.int .i64 f3]] [] w) := by
  unfold slices_ContainsFunc_int64_int64__Colouring_goesWith_1.f at H
  refine enterM (n := 9) hp Try.func119 rfl rfl (Nat.le_of_ble_eq_true rfl) fun a w ht hm => ?_
  refine wp_seq ?_
  refine wpr ?_
  refine wpl rfl rfl ht (ev_assign ht rfl rfl) ?_
  intro a ht
  refine wpList_nil ?_
  refine then_normal ?_
  refine wp_seq ?_
  refine wpr ?_
  refine wpl rfl rfl ht (ev_move ht rfl rfl) ?_
  intro a ht
  refine wpl rfl rfl ht (ev_move ht rfl rfl) ?_
  intro a ht
  obtain ⟨t1, et1, H⟩ := bind_get H
  have hcall := slices_IndexFunc_int64_int64__Colouring_goesWith_1.calls k _ _ A c m b b2 b3 b4 s f f2 f3 _ ((fun (hq : Ms _ _ _ ([.blk b 87 [.pointer (some ⟨b2, 0, none⟩)], .blk b2 28 (Col.cells f), .blk b3 2 [.int .i64 f2], .blk b4 2 [.int .i64 f3]] ++ []) _ _) => hq.lend (φp := [IntsAt A c m s]) (allRO_cons (hq.lendFact 0 rfl) (allRO_nil))) (hm.pick (own' := [.blk b 87 [.pointer (some ⟨b2, 0, none⟩)], .blk b2 28 (Col.cells f), .blk b3 2 [.int .i64 f2], .blk b4 2 [.int .i64 f3]] ++ []) [0, 1, 2, 3] rfl (by decide))) et1
  refine wpl_call _ rfl rfl ht rfl rfl rfl rfl can_128 hcall ?_
  clear hcall
  rintro _ w ⟨rfl, hpost⟩ a ht
  replace hm := (hm.pick (own' := [.blk b 87 [.pointer (some ⟨b2, 0, none⟩)], .blk b2 28 (Col.cells f), .blk b3 2 [.int .i64 f2], .blk b4 2 [.int .i64 f3]] ++ []) [0, 1, 2, 3] rfl (by decide)).backL hpost
  clear hpost
  refine wpl rfl rfl ht (ev_cmp ht rfl rfl rfl rfl) ?_
  intro a ht
  refine wpl rfl rfl ht (ev_assign ht rfl rfl) ?_
  intro a ht
  refine wpList_nil ?_
  refine then_normal ?_
  refine wp_ret ?_
  have hres := ht.res (P := Try.prog) (w := w) (rs := [.tmp 4]) (vs := [.bool (decide (t1 ≥ 0))]) (.tmp rfl .nil)
  obtain rfl := Option.some.inj H
  exact leave ht rfl hres ⟨rfl, ((hm.pick [0, 1, 2, 3] rfl (by decide)).pickφ [] rfl).post fun _ h => h⟩

/-! ### impl_Colouring_goesWith: function 98 ((*loop.example/g01362/impl.Colouring).goesWith) -/
def impl_Colouring_goesWith.f (k : Nat) (x : Col) (c : Int) (list : List Int) (p : Int) : Option (Bool) := (slices_ContainsFunc_int64_int64__Colouring_goesWith_1.f k list x p c).bind fun t4 => some !t4
set_option maxRecDepth 100000 in
set_option maxHeartbeats 1000000 in
theorem impl_Colouring_goesWith.calls (k : Nat) (X : List Nat) (w0 : World) (b : Nat) (A : Option Addr) (c2 : Nat) (m : Nat) (x : Col) (c : Int) (list : List Int) (p : Int) (r : Bool)
    (hp : Pre X w0 [.blk b 28 (Col.cells x)] [IntsAt A c2 m list]) (H : impl_Colouring_goesWith.f k x c list p = some r) :
    Calls Try.prog 98 [.pointer (some ⟨b, 0, none⟩), .int .i64 c, .slice A m c2, .int .i64 p].toArray w0 (Ret fun v w => v = .bool r ∧ Post X (fps [.blk b 28 (Col.cells x)]) w0 [.blk b 28 (Col.cells x)] [] w) := by
  unfold impl_Colouring_goesWith.f at H
  refine enterM (n := 13) hp Try.func98 rfl rfl (Nat.le_of_ble_eq_true rfl) fun a w ht hm => ?_
  refine wp_seq ?_
  refine wpr ?_
  refine wpl_box rfl rfl ht hm rfl rfl rfl ?_
  intro b1 a ht w hm
  refine wpl_box rfl rfl ht hm rfl rfl rfl ?_
  intro b2 a ht w hm
  refine wpl_box rfl rfl ht hm rfl rfl rfl ?_
  intro b3 a ht w hm
  refine wpl rfl rfl ht (ev_assign ht rfl rfl) ?_
  intro a ht
  refine wpList_nil ?_
  refine then_normal ?_
  refine wp_seq ?_
  refine wpr ?_
  refine wpl rfl rfl ht (ev_move ht rfl rfl) ?_
  intro a ht
  refine wpl rfl rfl ht (ev_makeFunc ht rfl rfl rfl) ?_
  intro a ht
  obtain ⟨t4, et4, H⟩ := bind_get H
  have hcall := slices_ContainsFunc_int64_int64__Colouring_goesWith_1.calls k _ _ A c2 m b1 b b3 b2 list x p c _ ((fun (hq : Ms _ _ _ ([.blk b1 87 [.pointer (some ⟨b, 0, none⟩)], .blk b 28 (Col.cells x), .blk b3 2 [.int .i64 p], .blk b2 2 [.int .i64 c]] ++ []) _ _) => hq.lend (φp := [IntsAt A c2 m list]) (allRO_cons (hq.lendFact 0 rfl) (allRO_nil))) (hm.pick (own' := [.blk b1 87 [.pointer (some ⟨b, 0, none⟩)], .blk b 28 (Col.cells x), .blk b3 2 [.int .i64 p], .blk b2 2 [.int .i64 c]] ++ []) [2, 3, 0, 1] rfl (by decide))) et4
  refine wpl_call _ rfl rfl ht rfl rfl rfl rfl can_119 hcall ?_
  clear hcall
  rintro _ w ⟨rfl, hpost⟩ a ht
  replace hm := (hm.pick (own' := [.blk b1 87 [.pointer (some ⟨b, 0, none⟩)], .blk b 28 (Col.cells x), .blk b3 2 [.int .i64 p], .blk b2 2 [.int .i64 c]] ++ []) [2, 3, 0, 1] rfl (by decide)).backL hpost
  clear hpost
  refine wpl rfl rfl ht (ev_not ht rfl rfl) ?_
  intro a ht
  refine wpl rfl rfl ht (ev_assign ht rfl rfl) ?_
  intro a ht
  refine wpList_nil ?_
  refine then_normal ?_
  refine wp_ret ?_
  have hres := ht.res (P := Try.prog) (w := w) (rs := [.tmp 8]) (vs := [.bool !t4]) (.tmp rfl .nil)
  obtain rfl := Option.some.inj H
  exact leave ht rfl hres ⟨rfl, ((hm.pick [1] rfl (by decide)).pickφ [] rfl).post fun _ h => h⟩

/-! ### impl_Colouring_isClique: function 56 ((*loop.example/g01362/impl.Colouring).isClique) -/
def impl_Colouring_isClique.l0 : Nat → Col → Int → List Int → Int → Option (Bool)
  | 0, _, _, _, _ => none
  | q1 + 1, x, c, points, xs0_1 => if xs0_1 < (points.length : Int) then ((getI points xs0_1).bind fun t3 => (guardO (0 ≤ (0 : Int) ∧ (0 : Int) ≤ xs0_1 ∧ xs0_1 ≤ (points.length : Int))).bind fun _ => (impl_Colouring_goesWith.f q1 x c ((points.take xs0_1.toNat).drop (0 : Int).toNat) t3).bind fun t6 => if t6 = true then (impl_Colouring_isClique.l0 q1 x c points (w64 (xs0_1 + 1))) else (some false)) else (some true)
def impl_Colouring_isClique.f (k : Nat) (x : Col) (c : Int) (points : List Int) : Option (Bool) := impl_Colouring_isClique.l0 k x c points 0
set_option maxRecDepth 100000 in
set_option maxHeartbeats 1000000 in
theorem impl_Colouring_isClique.calls (k : Nat) (X : List Nat) (w0 : World) (b : Nat) (A : Option Addr) (c2 : Nat) (m : Nat) (x : Col) (c : Int) (points : List Int) (r : Bool)
    (hp : Pre X w0 [.blk b 28 (Col.cells x)] [IntsAt A c2 m points]) (H : impl_Colouring_isClique.f k x c points = some r) :
    Calls Try.prog 56 [.pointer (some ⟨b, 0, none⟩), .int .i64 c, .slice A m c2].toArray w0 (Ret fun v w => v = .bool r ∧ Post X (fps [.blk b 28 (Col.cells x)]) w0 [.blk b 28 (Col.cells x)] [] w) := by
  unfold impl_Colouring_isClique.f at H
  refine enterM (n := 25) hp Try.func56 rfl rfl (Nat.le_of_ble_eq_true rfl) fun a w ht hm => ?_
  refine wp_seq ?_
  refine wpr ?_
  refine wpl rfl rfl ht (ev_assign ht rfl rfl) ?_
  intro a ht
  refine wpList_nil ?_
  refine then_normal ?_
  refine wp_seq ?_
  refine wp_seq ?_
  refine wpr ?_
  refine wpl rfl rfl ht (ev_move ht rfl rfl) ?_
  intro a ht
  refine wpl rfl rfl ht (ev_len_of ht rfl rfl und_25 (hm.fact (φ := IntsAt A c2 m points) 0 rfl)) ?_
  intro a ht
  refine wpl rfl rfl ht (ev_move ht rfl rfl) ?_
  intro a ht
  refine wpList_nil ?_
  refine then_normal ?_
  refine wp_block ?_
  refine wpLoop (fun q a w => ∃ (xs0_1 : Int), impl_Colouring_isClique.l0 q x c points xs0_1 = some r ∧ q ≤ k ∧ Tm 25 [(0, .pointer (some ⟨b, 0, none⟩)), (1, .int .i64 c), (2, .slice A m c2), (6, .bool false), (9, .slice A m c2), (10, .int .i64 (points.length : Int)), (11, .int .i64 xs0_1)] a ∧ Ms X (fps [.blk b 28 (Col.cells x)]) w0 [.blk b 28 (Col.cells x)] [IntsAt A c2 m points] w) (k0 := k) ⟨0, H, Nat.le_refl _, ht.sub ⟨rfl, rfl, rfl, rfl, rfl, rfl, rfl, trivial⟩, (hm.pick [0] rfl (by decide)).pickφ [0] rfl⟩ ?_
  clear H ht hm
  intro q1 a w hJ
  obtain ⟨xs0_1, H, hqq1, ht, hm⟩ := hJ
  cases q1 with
  | zero => cases H
  | succ q1 =>
  rw [impl_Colouring_isClique.l0] at H
  refine wp_seq ?_
  refine wpr ?_
  refine wpl rfl rfl ht (ev_cmp ht rfl rfl rfl rfl) ?_
  intro a ht
  refine wpList_nil ?_
  refine then_normal ?_
  refine wp_seq ?_
  by_cases h2 : xs0_1 < (points.length : Int)
  · replace H := ite_yes h2 H
    refine wpc_yes ht rfl (decide_eq_true h2) ?_
    refine wp_skip ?_
    refine then_normal ?_
    refine wp_seq ?_
    refine wp_block ?_
    refine wp_seq ?_
    refine wpr ?_
    refine wpl rfl rfl ht (ev_move ht rfl rfl) ?_
    intro a ht
    obtain ⟨t3, et3, H⟩ := bind_get H
    refine wpl rfl rfl ht (ev_index_ints ht rfl rfl rfl so_25 (hm.fact (φ := IntsAt A c2 m points) 0 rfl) et3) ?_
    intro a ht
    refine wpl rfl rfl ht (ev_load ht rfl rfl sc_2 (RowAt.cell (hm.fact (φ := IntsAt A c2 m points) 0 rfl) (ints_get et3) rfl)) ?_
    intro a ht
    refine wpl rfl rfl ht (ev_assign ht rfl rfl) ?_
    intro a ht
    refine wpl rfl rfl ht (ev_assign ht rfl rfl) ?_
    intro a ht
    refine wpList_nil ?_
    refine then_normal ?_
    refine wp_seq ?_
    refine wpr ?_
    refine wpl rfl rfl ht (ev_move ht rfl rfl) ?_
    intro a ht
    refine wpl rfl rfl ht (ev_move ht rfl rfl) ?_
    intro a ht
    refine wpl rfl rfl ht (ev_move ht rfl rfl) ?_
    intro a ht
    refine wpl rfl rfl ht (ev_move ht rfl rfl) ?_
    intro a ht
    obtain ⟨u4, eu4, H⟩ := bind_get H
    refine wpl rfl rfl ht (ev_slice_ints (k := .i64) (k' := .i64) (l := points) (i := (0 : Int)) (j := xs0_1) ht rfl rfl und_25 sz1_2 (hm.fact (φ := IntsAt A c2 m points) 0 rfl) (.inl ⟨rfl, rfl⟩) (.inr ⟨_, rfl, rfl⟩) (guardO_get eu4)) ?_
    intro a ht
    replace hm : Ms _ _ _ _ (IntsAt (sliceA A (0 : Int).toNat c2) (c2 - (0 : Int).toNat) (xs0_1.toNat - (0 : Int).toNat) ((points.take xs0_1.toNat).drop (0 : Int).toNat) :: _) w := hm.addφ ((hm.ro (φ := IntsAt A c2 m points) 0 rfl).mono fun w hh => IntsAt.slice hh (guardO_get eu4))
    refine wpl rfl rfl ht (ev_move ht rfl rfl) ?_
    intro a ht
    obtain ⟨t6, et6, H⟩ := bind_get H
    have hcall := impl_Colouring_goesWith.calls q1 _ _ b (sliceA A (0 : Int).toNat c2) (c2 - (0 : Int).toNat) (xs0_1.toNat - (0 : Int).toNat) x c ((points.take xs0_1.toNat).drop (0 : Int).toNat) t3 _ ((fun (hq : Ms _ _ _ ([.blk b 28 (Col.cells x)] ++ []) _ _) => hq.lend (φp := [IntsAt (sliceA A (0 : Int).toNat c2) (c2 - (0 : Int).toNat) (xs0_1.toNat - (0 : Int).toNat) ((points.take xs0_1.toNat).drop (0 : Int).toNat)]) (allRO_cons (hq.lendFact 0 rfl) (allRO_nil))) (hm.pick (own' := [.blk b 28 (Col.cells x)] ++ []) [0] rfl (by decide))) et6
    refine wpl_call _ rfl rfl ht rfl rfl rfl rfl can_98 hcall ?_
    clear hcall
    rintro _ w ⟨rfl, hpost⟩ a ht
    replace hm := (hm.pick (own' := [.blk b 28 (Col.cells x)] ++ []) [0] rfl (by decide)).backL hpost
    clear hpost
    refine wpl rfl rfl ht (ev_not ht rfl rfl) ?_
    intro a ht
    refine wpList_nil ?_
    refine then_normal ?_
    by_cases h7 : t6 = true
    · replace H := ite_yes h7 H
      refine wpc_no ht rfl (not_t h7) ?_
      refine wp_skip ?_
      refine blk_normal ?_
      refine then_normal ?_
      refine wpr ?_
      refine wpl rfl rfl ht (ev_arith ht rfl rfl rfl rfl) ?_
      intro a ht
      refine wpl rfl rfl ht (ev_move ht rfl rfl) ?_
      intro a ht
      refine wpList_nil ?_
      exact then_normal ⟨q1, by omega, (w64 (xs0_1 + 1)), H, by omega, ht.sub ⟨rfl, rfl, rfl, rfl, rfl, rfl, rfl, trivial⟩, (hm.pick [0] rfl (by decide)).pickφ [1] rfl⟩
    · replace H := ite_no h7 H
      refine wpc_yes ht rfl (not_f (Bool.eq_false_iff.mpr h7)) ?_
      refine wp_seq ?_
      refine wpr ?_
      refine wpl rfl rfl ht (ev_assign ht rfl rfl) ?_
      intro a ht
      refine wpList_nil ?_
      refine then_normal ?_
      refine wp_ret ?_
      refine blk_ret ?_
      refine then_ret ?_
      refine then_ret ?_
      refine blk_ret ?_
      refine then_ret ?_
      have hres := ht.res (P := Try.prog) (w := w) (rs := [.tmp 6]) (vs := [.bool false]) (.tmp rfl .nil)
      obtain rfl := Option.some.inj H
      exact leave ht rfl hres ⟨rfl, ((hm.pick [0] rfl (by decide)).pickφ [] rfl).post fun _ h => h⟩
  · replace H := ite_no h2 H
    refine wpc_no ht rfl (decide_eq_false h2) ?_
    refine wp_exit ?_
    refine then_exit ?_
    refine then_exit ?_
    refine blk_hit ?_
    refine then_normal ?_
    refine wp_seq ?_
    refine wpr ?_
    refine wpl rfl rfl ht (ev_assign ht rfl rfl) ?_
    intro a ht
    refine wpList_nil ?_
    refine then_normal ?_
    refine wp_ret ?_
    have hres := ht.res (P := Try.prog) (w := w) (rs := [.tmp 6]) (vs := [.bool true]) (.tmp rfl .nil)
    obtain rfl := Option.some.inj H
    exact leave ht rfl hres ⟨rfl, ((hm.pick [0] rfl (by decide)).pickφ [] rfl).post fun _ h => h⟩

/-! ### impl_IsClique: function 18 (loop.example/g01362/impl.IsClique) -/
def impl_IsClique.f (k : Nat) (x : Col) (c : Int) (points : List Int) : Option (Bool × Int) := (impl_Colouring_code__IsClique_1.f k x c points).bind fun t4 => if t4 ≠ 0 then (some (false, t4)) else ((impl_Colouring_isClique.f k x c points).bind fun t6 => some (t6, 0))
set_option maxRecDepth 100000 in
set_option maxHeartbeats 1000000 in
theorem impl_IsClique.calls (k : Nat) (X : List Nat) (w0 : World) (A : Option Addr) (c2 : Nat) (m : Nat) (x : Col) (c : Int) (points : List Int) (r : Bool × Int)
    (hp : Pre X w0 [] [IntsAt A c2 m points]) (H : impl_IsClique.f k x c points = some r) :
    Calls Try.prog 18 [.agg (Col.cells x).toArray, .int .i64 c, .slice A m c2].toArray w0 (Ret fun v w => v = .tuple [.bool r.1, .int .i64 r.2].toArray ∧ Post X (fps []) w0 [] [] w) := by
  unfold impl_IsClique.f at H
  refine enterM (n := 17) hp Try.func18 rfl rfl (Nat.le_of_ble_eq_true rfl) fun a w ht hm => ?_
  refine wp_seq ?_
  refine wpr ?_
  refine wpl_box rfl rfl ht hm rfl rfl rfl ?_
  intro b1 a ht w hm
  refine wpl_box rfl rfl ht hm rfl rfl rfl ?_
  intro b2 a ht w hm
  refine wpl_box rfl rfl ht hm rfl rfl rfl ?_
  intro b3 a ht w hm
  refine wpl rfl rfl ht (ev_assign ht rfl rfl) ?_
  intro a ht
  refine wpl rfl rfl ht (ev_assign ht rfl rfl) ?_
  intro a ht
  refine wpList_nil ?_
  refine then_normal ?_
  refine wp_seq ?_
  refine wp_seq ?_
  refine wpr ?_
  refine wpl rfl rfl ht (ev_makeFunc ht rfl rfl rfl) ?_
  intro a ht
  obtain ⟨t4, et4, H⟩ := bind_get H
  have hcall := impl_Colouring_code__IsClique_1.calls k _ _ b1 b2 b3 A c2 m x c points _ ((fun (hq : Ms _ _ _ ([.blk b1 28 (Col.cells x), .blk b2 2 [.int .i64 c], .blk b3 25 [.slice A m c2]] ++ []) _ _) => hq.lend (φp := [IntsAt A c2 m points]) (allRO_cons (hq.lendFact 0 rfl) (allRO_nil))) (hm.pick (own' := [.blk b1 28 (Col.cells x), .blk b2 2 [.int .i64 c], .blk b3 25 [.slice A m c2]] ++ []) [2, 1, 0] rfl (by decide))) et4
  refine wpl_call _ rfl rfl ht rfl rfl rfl rfl can_52 hcall ?_
  clear hcall
  rintro _ w ⟨rfl, hpost⟩ a ht
  replace hm := (hm.pick (own' := [.blk b1 28 (Col.cells x), .blk b2 2 [.int .i64 c], .blk b3 25 [.slice A m c2]] ++ []) [2, 1, 0] rfl (by decide)).backL hpost
  clear hpost
  refine wpl rfl rfl ht (ev_assign ht rfl rfl) ?_
  intro a ht
  refine wpList_nil ?_
  refine then_normal ?_
  refine wp_seq ?_
  refine wpr ?_
  refine wpl rfl rfl ht (ev_move ht rfl rfl) ?_
  intro a ht
  refine wpl rfl rfl ht (ev_cmp ht rfl rfl rfl rfl) ?_
  intro a ht
  refine wpList_nil ?_
  refine then_normal ?_
  by_cases h5 : t4 ≠ 0
  · replace H := ite_yes h5 H
    refine wpc_yes ht rfl (decide_eq_true h5) ?_
    refine wp_seq ?_
    refine wpr ?_
    refine wpl rfl rfl ht (ev_move ht rfl rfl) ?_
    intro a ht
    refine wpl rfl rfl ht (ev_assign ht rfl rfl) ?_
    intro a ht
    refine wpl rfl rfl ht (ev_assign ht rfl rfl) ?_
    intro a ht
    refine wpList_nil ?_
    refine then_normal ?_
    refine wp_ret ?_
    refine then_ret ?_
    have hres := ht.res (P := Try.prog) (w := w) (rs := [.tmp 6, .tmp 7]) (vs := [.bool false, .int .i64 t4]) (.tmp rfl (.tmp rfl .nil))
    obtain rfl := Option.some.inj H
    exact leave ht rfl hres ⟨rfl, ((hm.pick [] rfl (by decide)).pickφ [] rfl).post fun _ h => h⟩
  · replace H := ite_no h5 H
    refine wpc_no ht rfl (decide_eq_false h5) ?_
    refine wp_skip ?_
    refine then_normal ?_
    refine wp_seq ?_
    refine wpr ?_
    refine wpl rfl rfl ht (ev_load ht rfl rfl sc_2 (hm.blk_cell 1 rfl rfl)) ?_
    intro a ht
    refine wpl rfl rfl ht (ev_load ht rfl rfl sc_25 (hm.blk_cell 2 rfl rfl)) ?_
    intro a ht
    obtain ⟨t6, et6, H⟩ := bind_get H
    have hcall := impl_Colouring_isClique.calls k _ _ b1 A c2 m x c points _ ((fun (hq : Ms _ _ _ ([.blk b1 28 (Col.cells x)] ++ [.blk b2 2 [.int .i64 c], .blk b3 25 [.slice A m c2]]) _ _) => hq.lend (φp := [IntsAt A c2 m points]) (allRO_cons (hq.lendFact 0 rfl) (allRO_nil))) (hm.pick (own' := [.blk b1 28 (Col.cells x)] ++ [.blk b2 2 [.int .i64 c], .blk b3 25 [.slice A m c2]]) [0, 1, 2] rfl (by decide))) et6
    refine wpl_call _ rfl rfl ht rfl rfl rfl rfl can_56 hcall ?_
    clear hcall
    rintro _ w ⟨rfl, hpost⟩ a ht
    replace hm := (hm.pick (own' := [.blk b1 28 (Col.cells x)] ++ [.blk b2 2 [.int .i64 c], .blk b3 25 [.slice A m c2]]) [0, 1, 2] rfl (by decide)).backL hpost
    clear hpost
    refine wpl rfl rfl ht (ev_assign ht rfl rfl) ?_
    intro a ht
    refine wpl rfl rfl ht (ev_assign ht rfl rfl) ?_
    intro a ht
    refine wpList_nil ?_
    refine then_normal ?_
    refine wp_ret ?_
    have hres := ht.res (P := Try.prog) (w := w) (rs := [.tmp 6, .tmp 7]) (vs := [.bool t6, .int .i64 0]) (.tmp rfl (.tmp rfl .nil))
    obtain rfl := Option.some.inj H
    exact leave ht rfl hres ⟨rfl, ((hm.pick [] rfl (by decide)).pickφ [] rfl).post fun _ h => h⟩

end Go.Proofs.Ytdpamdedomkomaa.G
