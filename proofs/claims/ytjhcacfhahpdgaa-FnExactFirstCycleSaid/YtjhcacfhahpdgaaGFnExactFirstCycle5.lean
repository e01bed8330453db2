/- What each Go function computes, as a Lean function, and the proof that it does: written by a program of this session (wip/gen), part 5. -/
import Derived.Test.YtjhcacfhahpdgaaGFnExactFirstCycle4
namespace Go.Proofs.Ytjhcacfhahpdgaa.G
open Go Go.RowKit Go.Proofs.Ytjhcacfhahpdgaa.K
set_option linter.unusedVariables false
set_option linter.unusedSimpArgs false

/-! ### spec_FirstCycle: function 20 (loop.example/g01362/spec.FirstCycle) -/
def spec_FirstCycle.f (k : Nat) (x : Col) (c : Int) (m : Int) : Option (List Int × Int) := (spec_l01Given.f k x c ([])).bind fun t3 => if t3 = 0 then ((spec_l01In.f m 3 17).bind fun t5 => if t5 = true then ((spec_l04Code.f k x c true).bind fun t7 => if t7 ≠ 0 then (some (([] : List Int), t7)) else ((spec_l04First.f k x c m).bind fun t10 => if t10.2 = true then (some (t10.1, 0)) else (some (([] : List Int), 4)))) else (some (([] : List Int), 2))) else (some (([] : List Int), t3))
set_option maxRecDepth 100000 in
set_option maxHeartbeats 1000000 in
theorem spec_FirstCycle.calls (k : Nat) (X : List Nat) (w0 : World)  (x : Col) (c : Int) (m : Int) (r : List Int × Int)
    (hp : Pre X w0 [] []) (H : spec_FirstCycle.f k x c m = some r) :
    Calls Try.prog 20 [.agg (Col.cells x).toArray, .int .i64 c, .int .i64 m].toArray w0 (Ret fun v w => ∃ (A_0 : Option Addr) (c_0 : Nat) (n_0 : Nat), v = .tuple [.slice A_0 n_0 c_0, .int .i64 r.2].toArray ∧ Post X (fps []) w0 [] [IntsAt A_0 c_0 n_0 r.1] w) := by
  unfold spec_FirstCycle.f at H
  refine enterM (n := 39) hp Try.func20 rfl rfl (Nat.le_of_ble_eq_true rfl) fun a w ht hm => ?_
  refine wp_seq ?_
  refine wpr ?_
  refine wpl_box rfl rfl ht hm rfl rfl rfl ?_
  intro b1 a ht w hm
  refine wpl rfl rfl ht (ev_assign ht rfl rfl) ?_
  intro a ht
  refine wpl rfl rfl ht (ev_assign ht rfl rfl) ?_
  intro a ht
  refine wpList_nil ?_
  refine then_normal ?_
  refine wp_seq ?_
  refine wpr ?_
  refine wpl rfl rfl ht (ev_load_agg ht rfl rfl (ag_28.trans (by first | rw [Col.length_cells] | rfl)) (hm.blk_all 0 rfl)) ?_
  intro a ht
  refine wpl rfl rfl ht (ev_move ht rfl rfl) ?_
  intro a ht
  replace hm : Ms _ _ _ _ (IntsAt none 0 0 ([] : List Int) :: _) w := hm.nilRow none 1
  obtain ⟨t3, et3, H⟩ := bind_get H
  have hcall := spec_l01Given.calls k _ _ none 0 0 x c ([]) _ ((fun (hq : Ms _ _ _ ([] ++ [.blk b1 28 (Col.cells x)]) _ _) => hq.lend (φp := [IntsAt none 0 0 ([] : List Int)]) (allRO_cons (hq.lendFact 0 rfl) (allRO_nil))) (hm.pick (own' := [] ++ [.blk b1 28 (Col.cells x)]) [0] rfl (by decide))) et3
  refine wpl_call _ rfl rfl ht rfl rfl rfl rfl can_27 hcall ?_
  clear hcall
  rintro _ w ⟨rfl, hpost⟩ a ht
  replace hm := (hm.pick (own' := [] ++ [.blk b1 28 (Col.cells x)]) [0] rfl (by decide)).backL hpost
  clear hpost
  refine wpl rfl rfl ht (ev_assign ht rfl rfl) ?_
  intro a ht
  refine wpList_nil ?_
  refine then_normal ?_
  refine wp_seq ?_
  refine wp_seq ?_
  refine wpr ?_
  refine wpl rfl rfl ht (ev_move ht rfl rfl) ?_
  intro a ht
  refine wpl rfl rfl ht (ev_cmp ht rfl rfl rfl rfl) ?_
  intro a ht
  refine wpl rfl rfl ht (ev_move ht rfl rfl) ?_
  intro a ht
  by_cases h4 : t3 = 0
  · replace H := ite_yes h4 H
    refine wpl_yes rfl ht rfl ((decide_eq_true h4)) ?_
    refine wpl rfl rfl ht (ev_move ht rfl rfl) ?_
    intro a ht
    refine wpl_yes rfl ht rfl ((decide_eq_true h4)) ?_
    obtain ⟨t5, et5, H⟩ := bind_get H
    have hcall := spec_l01In.calls _ _ m 3 17 _ ((fun (hq : Ms _ _ _ ([] ++ [.blk b1 28 (Col.cells x)]) _ _) => hq.lend (φp := []) (allRO_nil)) (hm.pick (own' := [] ++ [.blk b1 28 (Col.cells x)]) [0] rfl (by decide))) et5
    refine wpl_call _ rfl rfl ht rfl rfl rfl rfl can_33 hcall ?_
    clear hcall
    rintro _ w ⟨rfl, hpost⟩ a ht
    replace hm := (hm.pick (own' := [] ++ [.blk b1 28 (Col.cells x)]) [0] rfl (by decide)).backL hpost
    clear hpost
    refine wpl_yes rfl ht rfl ((decide_eq_true h4)) ?_
    refine wpl rfl rfl ht (ev_not ht rfl rfl) ?_
    intro a ht
    refine wpl rfl rfl ht (ev_pick_yes ht rfl rfl (decide_eq_true h4) rfl) ?_
    intro a ht
    refine wpList_nil ?_
    refine then_normal ?_
    by_cases h6 : t5 = true
    · replace H := ite_yes h6 H
      refine wpc_no ht rfl (not_t h6) ?_
      refine wp_skip ?_
      refine then_normal ?_
      refine wp_seq ?_
      refine wp_seq ?_
      refine wpr ?_
      refine wpl rfl rfl ht (ev_move ht rfl rfl) ?_
      intro a ht
      refine wpl rfl rfl ht (ev_cmp ht rfl rfl rfl rfl) ?_
      intro a ht
      refine wpList_nil ?_
      refine then_normal ?_
      refine wpc_yes ht rfl (decide_eq_true h4) ?_
      refine wpr ?_
      refine wpl rfl rfl ht (ev_load_agg ht rfl rfl (ag_28.trans (by first | rw [Col.length_cells] | rfl)) (hm.blk_all 0 rfl)) ?_
      intro a ht
      refine wpl rfl rfl ht (ev_move ht rfl rfl) ?_
      intro a ht
      obtain ⟨t7, et7, H⟩ := bind_get H
      have hcall := spec_l04Code.calls k _ _ x c true _ ((fun (hq : Ms _ _ _ ([] ++ [.blk b1 28 (Col.cells x)]) _ _) => hq.lend (φp := []) (allRO_nil)) (hm.pick (own' := [] ++ [.blk b1 28 (Col.cells x)]) [0] rfl (by decide))) et7
      refine wpl_call _ rfl rfl ht rfl rfl rfl rfl can_22 hcall ?_
      clear hcall
      rintro _ w ⟨rfl, hpost⟩ a ht
      replace hm := (hm.pick (own' := [] ++ [.blk b1 28 (Col.cells x)]) [0] rfl (by decide)).backL hpost
      clear hpost
      refine wpl rfl rfl ht (ev_assign ht rfl rfl) ?_
      intro a ht
      refine wpList_nil ?_
      refine then_normal ?_
      refine wp_seq ?_
      refine wp_seq ?_
      refine wpr ?_
      refine wpl rfl rfl ht (ev_move ht rfl rfl) ?_
      intro a ht
      refine wpl rfl rfl ht (ev_cmp ht rfl rfl rfl rfl) ?_
      intro a ht
      refine wpList_nil ?_
      refine then_normal ?_
      by_cases h8 : t7 ≠ 0
      · replace H := ite_yes h8 H
        refine wpc_yes ht rfl (decide_eq_true h8) ?_
        refine wp_seq ?_
        refine wpr ?_
        refine wpl rfl rfl ht (ev_move ht rfl rfl) ?_
        intro a ht
        refine wpl rfl rfl ht (ev_assign ht rfl rfl) ?_
        intro a ht
        refine wpl rfl rfl ht (ev_assign ht rfl rfl) ?_
        intro a ht
        refine wpList_nil ?_
        refine then_normal ?_
        refine wp_ret ?_
        refine then_ret ?_
        have hres := ht.res (P := Try.prog) (w := w) (rs := [.tmp 6, .tmp 7]) (vs := [.slice none 0 0, .int .i64 t7]) (.tmp rfl (.tmp rfl .nil))
        replace hm : Ms _ _ _ _ (IntsAt none 0 0 ([] : List Int) :: _) w := hm.nilRow none 1
        obtain rfl := Option.some.inj H
        exact leave ht rfl hres ⟨none, 0, 0, rfl, ((hm.pick [] rfl (by decide)).pickφ [0] rfl).post fun _ h => h⟩
      · replace H := ite_no h8 H
        refine wpc_no ht rfl (decide_eq_false h8) ?_
        refine wp_skip ?_
        refine then_normal ?_
        refine wp_seq ?_
        refine wpr ?_
        refine wpl rfl rfl ht (ev_load_agg ht rfl rfl (ag_28.trans (by first | rw [Col.length_cells] | rfl)) (hm.blk_all 0 rfl)) ?_
        intro a ht
        refine wpl rfl rfl ht (ev_move ht rfl rfl) ?_
        intro a ht
        refine wpl rfl rfl ht (ev_move ht rfl rfl) ?_
        intro a ht
        obtain ⟨t10, et10, H⟩ := bind_get H
        have hcall := spec_l04First.calls k _ _ x c m _ ((hm.pick (own' := [] ++ [.blk b1 28 (Col.cells x)]) [0] rfl (by decide)).give (passed := []) (rest := [.blk b1 28 (Col.cells x)]) (φp := []) [] rfl) et10
        refine wpl_call _ rfl rfl ht rfl rfl rfl rfl can_34 hcall ?_
        clear hcall
        rintro _ w ⟨A11, c12, m13, rfl, hpost⟩ a ht
        replace hm := (hm.pick (own' := [] ++ [.blk b1 28 (Col.cells x)]) [0] rfl (by decide)).back hpost
        clear hpost
        refine wpl rfl rfl ht (ev_move ht rfl rfl) ?_
        intro a ht
        refine wpl rfl rfl ht (ev_extract ht rfl rfl rfl) ?_
        intro a ht
        refine wpl rfl rfl ht (ev_extract ht rfl rfl rfl) ?_
        intro a ht
        refine wpl rfl rfl ht (ev_assign ht rfl rfl) ?_
        intro a ht
        refine wpl rfl rfl ht (ev_assign ht rfl rfl) ?_
        intro a ht
        refine wpList_nil ?_
        refine then_normal ?_
        refine wp_seq ?_
        refine wp_seq ?_
        refine wpr ?_
        refine wpl rfl rfl ht (ev_move ht rfl rfl) ?_
        intro a ht
        refine wpl rfl rfl ht (ev_not ht rfl rfl) ?_
        intro a ht
        refine wpList_nil ?_
        refine then_normal ?_
        by_cases h14 : t10.2 = true
        · replace H := ite_yes h14 H
          refine wpc_no ht rfl (not_t h14) ?_
          refine wp_skip ?_
          refine then_normal ?_
          refine wp_seq ?_
          refine wpr ?_
          refine wpl rfl rfl ht (ev_move ht rfl rfl) ?_
          intro a ht
          refine wpl rfl rfl ht (ev_assign ht rfl rfl) ?_
          intro a ht
          refine wpl rfl rfl ht (ev_assign ht rfl rfl) ?_
          intro a ht
          refine wpList_nil ?_
          refine then_normal ?_
          refine wp_ret ?_
          have hres := ht.res (P := Try.prog) (w := w) (rs := [.tmp 6, .tmp 7]) (vs := [.slice A11 m13 c12, .int .i64 0]) (.tmp rfl (.tmp rfl .nil))
          obtain rfl := Option.some.inj H
          exact leave ht rfl hres ⟨A11, c12, m13, rfl, ((hm.pick [] rfl (by decide)).pickφ [0] rfl).post fun _ h => h⟩
        · replace H := ite_no h14 H
          refine wpc_yes ht rfl (not_f (Bool.eq_false_iff.mpr h14)) ?_
          refine wp_seq ?_
          refine wpr ?_
          refine wpl rfl rfl ht (ev_assign ht rfl rfl) ?_
          intro a ht
          refine wpl rfl rfl ht (ev_assign ht rfl rfl) ?_
          intro a ht
          refine wpList_nil ?_
          refine then_normal ?_
          refine wp_ret ?_
          refine then_ret ?_
          have hres := ht.res (P := Try.prog) (w := w) (rs := [.tmp 6, .tmp 7]) (vs := [.slice none 0 0, .int .i64 4]) (.tmp rfl (.tmp rfl .nil))
          replace hm : Ms _ _ _ _ (IntsAt none 0 0 ([] : List Int) :: _) w := hm.nilRow none 1
          obtain rfl := Option.some.inj H
          exact leave ht rfl hres ⟨none, 0, 0, rfl, ((hm.pick [] rfl (by decide)).pickφ [0] rfl).post fun _ h => h⟩
    · replace H := ite_no h6 H
      refine wpc_yes ht rfl (not_f (Bool.eq_false_iff.mpr h6)) ?_
      refine wpr ?_
      refine wpl rfl rfl ht (ev_assign ht rfl rfl) ?_
      intro a ht
      refine wpList_nil ?_
      refine then_normal ?_
      refine wp_seq ?_
      refine wp_seq ?_
      refine wpr ?_
      refine wpl rfl rfl ht (ev_move ht rfl rfl) ?_
      intro a ht
      refine wpl rfl rfl ht (ev_cmp (r := false) ht rfl rfl rfl (by decide)) ?_
      intro a ht
      refine wpList_nil ?_
      refine then_normal ?_
      refine wpc_no ht rfl rfl ?_
      refine wp_skip ?_
      refine then_normal ?_
      refine wp_seq ?_
      refine wp_seq ?_
      refine wpr ?_
      refine wpl rfl rfl ht (ev_move ht rfl rfl) ?_
      intro a ht
      refine wpl rfl rfl ht (ev_cmp (r := true) ht rfl rfl rfl (by decide)) ?_
      intro a ht
      refine wpList_nil ?_
      refine then_normal ?_
      refine wpc_yes ht rfl rfl ?_
      refine wp_seq ?_
      refine wpr ?_
      refine wpl rfl rfl ht (ev_move ht rfl rfl) ?_
      intro a ht
      refine wpl rfl rfl ht (ev_assign ht rfl rfl) ?_
      intro a ht
      refine wpl rfl rfl ht (ev_assign ht rfl rfl) ?_
      intro a ht
      refine wpList_nil ?_
      refine then_normal ?_
      refine wp_ret ?_
      refine then_ret ?_
      have hres := ht.res (P := Try.prog) (w := w) (rs := [.tmp 6, .tmp 7]) (vs := [.slice none 0 0, .int .i64 2]) (.tmp rfl (.tmp rfl .nil))
      replace hm : Ms _ _ _ _ (IntsAt none 0 0 ([] : List Int) :: _) w := hm.nilRow none 1
      obtain rfl := Option.some.inj H
      exact leave ht rfl hres ⟨none, 0, 0, rfl, ((hm.pick [] rfl (by decide)).pickφ [0] rfl).post fun _ h => h⟩
  · replace H := ite_no h4 H
    refine wpl_no rfl rfl ht rfl (by rw [(decide_eq_false h4)]; decide) ?_
    intro a ht
    refine wpl_no rfl rfl ht rfl (by rw [(decide_eq_false h4)]; decide) ?_
    intro a ht
    refine wpl_no rfl rfl ht rfl (by rw [(decide_eq_false h4)]; decide) ?_
    intro a ht
    refine wpl rfl rfl ht (ev_pick_no ht rfl rfl (decide_eq_false h4) rfl) ?_
    intro a ht
    refine wpList_nil ?_
    refine then_normal ?_
    refine wpc_no ht rfl rfl ?_
    refine wp_skip ?_
    refine then_normal ?_
    refine wp_seq ?_
    refine wp_seq ?_
    refine wpr ?_
    refine wpl rfl rfl ht (ev_move ht rfl rfl) ?_
    intro a ht
    refine wpl rfl rfl ht (ev_cmp ht rfl rfl rfl rfl) ?_
    intro a ht
    refine wpList_nil ?_
    refine then_normal ?_
    refine wpc_no ht rfl (decide_eq_false h4) ?_
    refine wp_skip ?_
    refine then_normal ?_
    refine wp_seq ?_
    refine wp_seq ?_
    refine wpr ?_
    refine wpl rfl rfl ht (ev_move ht rfl rfl) ?_
    intro a ht
    refine wpl rfl rfl ht (ev_cmp ht rfl rfl rfl rfl) ?_
    intro a ht
    refine wpList_nil ?_
    refine then_normal ?_
    refine wpc_yes ht rfl (decide_eq_true (by first | exact h4 | (intro hh; exact h4 hh) | omega)) ?_
    refine wp_seq ?_
    refine wpr ?_
    refine wpl rfl rfl ht (ev_move ht rfl rfl) ?_
    intro a ht
    refine wpl rfl rfl ht (ev_assign ht rfl rfl) ?_
    intro a ht
    refine wpl rfl rfl ht (ev_assign ht rfl rfl) ?_
    intro a ht
    refine wpList_nil ?_
    refine then_normal ?_
    refine wp_ret ?_
    refine then_ret ?_
    have hres := ht.res (P := Try.prog) (w := w) (rs := [.tmp 6, .tmp 7]) (vs := [.slice none 0 0, .int .i64 t3]) (.tmp rfl (.tmp rfl .nil))
    replace hm : Ms _ _ _ _ (IntsAt none 0 0 ([] : List Int) :: _) w := hm.nilRow none 1
    obtain rfl := Option.some.inj H
    exact leave ht rfl hres ⟨none, 0, 0, rfl, ((hm.pick [] rfl (by decide)).pickφ [0] rfl).post fun _ h => h⟩

/-! ### impl_in: function 35 (loop.example/g01362/impl.in) -/
def impl_in.f (n_ : Int) (low : Int) (high : Int) : Option (Bool) := if n_ ≥ low then (some (decide (n_ ≤ high))) else (some false)
set_option maxRecDepth 100000 in
set_option maxHeartbeats 1000000 in
theorem impl_in.calls (X : List Nat) (w0 : World)  (n_ : Int) (low : Int) (high : Int) (r : Bool)
    (hp : Pre X w0 [] []) (H : impl_in.f n_ low high = some r) :
    Calls Try.prog 35 [.int .i64 n_, .int .i64 low, .int .i64 high].toArray w0 (Ret fun v w => v = .bool r ∧ Post X (fps []) w0 [] [] w) := by
  unfold impl_in.f at H
  refine enterM (n := 15) hp Try.func35 rfl rfl (Nat.le_of_ble_eq_true rfl) fun a w ht hm => ?_
  refine wp_seq ?_
  refine wpr ?_
  refine wpl rfl rfl ht (ev_assign ht rfl rfl) ?_
  intro a ht
  refine wpList_nil ?_
  refine then_normal ?_
  refine wp_seq ?_
  refine wpr ?_
  refine wpl rfl rfl ht (ev_move ht rfl rfl) ?_
  intro a ht
  refine wpl rfl rfl ht (ev_move ht rfl rfl) ?_
  intro a ht
  refine wpl rfl rfl ht (ev_cmp ht rfl rfl rfl rfl) ?_
  intro a ht
  refine wpl rfl rfl ht (ev_move ht rfl rfl) ?_
  intro a ht
  by_cases h1 : n_ ≥ low
  · replace H := ite_yes h1 H
    refine wpl_yes rfl ht rfl ((decide_eq_true h1)) ?_
    refine wpl rfl rfl ht (ev_move ht rfl rfl) ?_
    intro a ht
    refine wpl_yes rfl ht rfl ((decide_eq_true h1)) ?_
    refine wpl rfl rfl ht (ev_move ht rfl rfl) ?_
    intro a ht
    refine wpl_yes rfl ht rfl ((decide_eq_true h1)) ?_
    refine wpl rfl rfl ht (ev_cmp ht rfl rfl rfl rfl) ?_
    intro a ht
    refine wpl rfl rfl ht (ev_pick_yes ht rfl rfl (decide_eq_true h1) rfl) ?_
    intro a ht
    refine wpl rfl rfl ht (ev_assign ht rfl rfl) ?_
    intro a ht
    refine wpList_nil ?_
    refine then_normal ?_
    refine wp_ret ?_
    have hres := ht.res (P := Try.prog) (w := w) (rs := [.tmp 6]) (vs := [.bool (decide (n_ ≤ high))]) (.tmp rfl .nil)
    obtain rfl := Option.some.inj H
    exact leave ht rfl hres ⟨rfl, ((hm.pick [] rfl (by decide)).pickφ [] rfl).post fun _ h => h⟩
  · replace H := ite_no h1 H
    refine wpl_no rfl rfl ht rfl (by rw [(decide_eq_false h1)]; decide) ?_
    intro a ht
    refine wpl_no rfl rfl ht rfl (by rw [(decide_eq_false h1)]; decide) ?_
    intro a ht
    refine wpl_no rfl rfl ht rfl (by rw [(decide_eq_false h1)]; decide) ?_
    intro a ht
    refine wpl rfl rfl ht (ev_pick_no ht rfl rfl (decide_eq_false h1) rfl) ?_
    intro a ht
    refine wpl rfl rfl ht (ev_assign ht rfl rfl) ?_
    intro a ht
    refine wpList_nil ?_
    refine then_normal ?_
    refine wp_ret ?_
    have hres := ht.res (P := Try.prog) (w := w) (rs := [.tmp 6]) (vs := [.bool false]) (.tmp rfl .nil)
    obtain rfl := Option.some.inj H
    exact leave ht rfl hres ⟨rfl, ((hm.pick [] rfl (by decide)).pickφ [] rfl).post fun _ h => h⟩

/-! ### impl_Colouring_edges: function 62 ((*loop.example/g01362/impl.Colouring).edges) -/
def impl_Colouring_edges.f (x : Col) : Option (Int) := some (w64 (Int.tdiv (w64 (x.p * (w64 (x.p - 1)))) 2))
set_option maxRecDepth 100000 in
set_option maxHeartbeats 1000000 in
theorem impl_Colouring_edges.calls (X : List Nat) (w0 : World) (b : Nat) (x : Col) (r : Int)
    (hp : Pre X w0 [.blk b 28 (Col.cells x)] []) (H : impl_Colouring_edges.f x = some r) :
    Calls Try.prog 62 [.pointer (some ⟨b, 0, none⟩)].toArray w0 (Ret fun v w => v = .int .i64 r ∧ Post X (fps [.blk b 28 (Col.cells x)]) w0 [.blk b 28 (Col.cells x)] [] w) := by
  unfold impl_Colouring_edges.f at H
  refine enterM (n := 14) hp Try.func62 rfl rfl (Nat.le_of_ble_eq_true rfl) fun a w ht hm => ?_
  refine wp_seq ?_
  refine wpr ?_
  refine wpl rfl rfl ht (ev_assign ht rfl rfl) ?_
  intro a ht
  refine wpList_nil ?_
  refine then_normal ?_
  refine wp_seq ?_
  refine wph_begin (fun w => Ms X (fps [.blk b 28 (Col.cells x)]) w0 [.blk b 28 (Col.cells x)] [] w) mixed ?_
  replace hm := hm.drew
  have hS : Ms X (fps [.blk b 28 (Col.cells x)]) w0 [.blk b 28 (Col.cells x)] [] w.drew := (hm.pick [0] rfl (by decide)).pickφ [] rfl
  generalize w.drew = w at hm hS ⊢
  refine wph_take (i := 0) rfl (by kernel_rfl) (by kernel_rfl) (by kernel_rfl) (fun _ _ _ h => h) rfl ht hS (wanted_plain rfl) (fun w hm => ev_move ht rfl rfl) ?_
  intro a ht
  refine wph_take (i := 1) rfl (by kernel_rfl) (by kernel_rfl) (by kernel_rfl) (fun _ _ _ h => h) rfl ht hS (wanted_plain rfl) (fun w hm => ev_nilCheck ht rfl rfl) ?_
  intro a ht
  refine wph_take (i := 2) rfl (by kernel_rfl) (by kernel_rfl) (by kernel_rfl) (fun _ _ _ h => h) rfl ht hS (wanted_plain rfl) (fun w hm => ev_fieldAddr ht rfl rfl fo_28_0) ?_
  intro a ht
  refine wph_take (i := 3) rfl (by kernel_rfl) (by kernel_rfl) (by kernel_rfl) (fun _ _ _ h => h) rfl ht hS (wanted_plain rfl) (fun w hm => ev_load ht rfl rfl sc_2 (hm.blk_cell 0 rfl rfl)) ?_
  intro a ht
  refine wph_take (i := 4) rfl (by kernel_rfl) (by kernel_rfl) (by kernel_rfl) (fun _ _ _ h => h) rfl ht hS (wanted_plain rfl) (fun w hm => ev_move ht rfl rfl) ?_
  intro a ht
  refine wph_take (i := 5) rfl (by kernel_rfl) (by kernel_rfl) (by kernel_rfl) (fun _ _ _ h => h) rfl ht hS (wanted_plain rfl) (fun w hm => ev_nilCheck ht rfl rfl) ?_
  intro a ht
  refine wph_take (i := 6) rfl (by kernel_rfl) (by kernel_rfl) (by kernel_rfl) (fun _ _ _ h => h) rfl ht hS (wanted_plain rfl) (fun w hm => ev_fieldAddr ht rfl rfl fo_28_0) ?_
  intro a ht
  refine wph_take (i := 7) rfl (by kernel_rfl) (by kernel_rfl) (by kernel_rfl) (fun _ _ _ h => h) rfl ht hS (wanted_plain rfl) (fun w hm => ev_load ht rfl rfl sc_2 (hm.blk_cell 0 rfl rfl)) ?_
  intro a ht
  refine wph_take (i := 8) rfl (by kernel_rfl) (by kernel_rfl) (by kernel_rfl) (fun _ _ _ h => h) rfl ht hS (wanted_plain rfl) (fun w hm => ev_arith ht rfl rfl rfl rfl) ?_
  intro a ht
  refine wph_take (i := 9) rfl (by kernel_rfl) (by kernel_rfl) (by kernel_rfl) (fun _ _ _ h => h) rfl ht hS (wanted_plain rfl) (fun w hm => ev_arith ht rfl rfl rfl rfl) ?_
  intro a ht
  refine wph_take (i := 10) rfl (by kernel_rfl) (by kernel_rfl) (by kernel_rfl) (fun _ _ _ h => h) rfl ht hS (wanted_plain rfl) (fun w hm => ev_quo ht rfl rfl rfl (by decide)) ?_
  intro a ht
  refine wph_take (i := 11) rfl (by kernel_rfl) (by kernel_rfl) (by kernel_rfl) (fun _ _ _ h => h) rfl ht hS (wanted_plain rfl) (fun w hm => ev_assign ht rfl rfl) ?_
  intro a ht
  refine wph_done (by kernel_rfl) ?_
  refine then_normal ?_
  refine wp_ret ?_
  have hres := ht.res (P := Try.prog) (w := w) (rs := [.tmp 2]) (vs := [.int .i64 (w64 (Int.tdiv (w64 (x.p * (w64 (x.p - 1)))) 2))]) (.tmp rfl .nil)
  obtain rfl := Option.some.inj H
  exact leave ht rfl hres ⟨rfl, ((hm.pick [0] rfl (by decide)).pickφ [] rfl).post fun _ h => h⟩

/-! ### impl_Colouring_isColouring: function 55 ((*loop.example/g01362/impl.Colouring).isColouring) -/
def impl_Colouring_isColouring.l0 : Nat → Col → Int → Option (Bool)
  | 0, _, _ => none
  | q5 + 1, x, xs0_1 => if xs0_1 < 136 then ((getB 136 x.e xs0_1).bind fun t7 => if (w64 t7) ≥ x.k then (some false) else ((impl_Colouring_edges.f x).bind fun t9 => if xs0_1 ≥ t9 then (if t7 ≠ 0 then (some false) else (impl_Colouring_isColouring.l0 q5 x (w64 (xs0_1 + 1)))) else (impl_Colouring_isColouring.l0 q5 x (w64 (xs0_1 + 1))))) else (some true)
def impl_Colouring_isColouring.f (k : Nat) (x : Col) : Option (Bool) := (impl_in.f x.p 1 17).bind fun t1 => if t1 = true then ((impl_in.f x.k 1 4).bind fun t3 => if t3 = true then (impl_Colouring_isColouring.l0 k x 0) else (some false)) else (some false)
set_option maxRecDepth 100000 in
set_option maxHeartbeats 1000000 in
theorem impl_Colouring_isColouring.calls (k : Nat) (X : List Nat) (w0 : World) (b : Nat) (x : Col) (r : Bool)
    (hp : Pre X w0 [.blk b 28 (Col.cells x)] []) (H : impl_Colouring_isColouring.f k x = some r) :
    Calls Try.prog 55 [.pointer (some ⟨b, 0, none⟩)].toArray w0 (Ret fun v w => v = .bool r ∧ Post X (fps [.blk b 28 (Col.cells x)]) w0 [.blk b 28 (Col.cells x)] [] w) := by
  unfold impl_Colouring_isColouring.f at H
  refine enterM (n := 45) hp Try.func55 rfl rfl (Nat.le_of_ble_eq_true rfl) fun a w ht hm => ?_
  refine wp_seq ?_
  refine wpr ?_
  refine wpl rfl rfl ht (ev_assign ht rfl rfl) ?_
  intro a ht
  refine wpList_nil ?_
  refine then_normal ?_
  refine wp_seq ?_
  refine wp_seq ?_
  refine wpr ?_
  refine wpl rfl rfl ht (ev_move ht rfl rfl) ?_
  intro a ht
  refine wpl rfl rfl ht (ev_nilCheck ht rfl rfl) ?_
  intro a ht
  refine wpl rfl rfl ht (ev_fieldAddr ht rfl rfl fo_28_0) ?_
  intro a ht
  refine wpl rfl rfl ht (ev_load ht rfl rfl sc_2 (hm.blk_cell 0 rfl rfl)) ?_
  intro a ht
  obtain ⟨t1, et1, H⟩ := bind_get H
  have hcall := impl_in.calls _ _ x.p 1 17 _ ((fun (hq : Ms _ _ _ ([] ++ [.blk b 28 (Col.cells x)]) _ _) => hq.lend (φp := []) (allRO_nil)) (hm.pick (own' := [] ++ [.blk b 28 (Col.cells x)]) [0] rfl (by decide))) et1
  refine wpl_call _ rfl rfl ht rfl rfl rfl rfl can_35 hcall ?_
  clear hcall
  rintro _ w ⟨rfl, hpost⟩ a ht
  replace hm := (hm.pick (own' := [] ++ [.blk b 28 (Col.cells x)]) [0] rfl (by decide)).backL hpost
  clear hpost
  refine wpl rfl rfl ht (ev_not ht rfl rfl) ?_
  intro a ht
  refine wpl rfl rfl ht (ev_move ht rfl rfl) ?_
  intro a ht
  by_cases h2 : t1 = true
  · replace H := ite_yes h2 H
    refine wpl_yes rfl ht rfl ((not_t h2)) ?_
    refine wpl rfl rfl ht (ev_move ht rfl rfl) ?_
    intro a ht
    refine wpl_yes rfl ht rfl ((not_t h2)) ?_
    refine wpl rfl rfl ht (ev_nilCheck ht rfl rfl) ?_
    intro a ht
    refine wpl_yes rfl ht rfl ((not_t h2)) ?_
    refine wpl rfl rfl ht (ev_fieldAddr ht rfl rfl fo_28_1) ?_
    intro a ht
    refine wpl_yes rfl ht rfl ((not_t h2)) ?_
    refine wpl rfl rfl ht (ev_load ht rfl rfl sc_2 (hm.blk_cell 0 rfl rfl)) ?_
    intro a ht
    refine wpl_yes rfl ht rfl ((not_t h2)) ?_
    obtain ⟨t3, et3, H⟩ := bind_get H
    have hcall := impl_in.calls _ _ x.k 1 4 _ ((fun (hq : Ms _ _ _ ([] ++ [.blk b 28 (Col.cells x)]) _ _) => hq.lend (φp := []) (allRO_nil)) (hm.pick (own' := [] ++ [.blk b 28 (Col.cells x)]) [0] rfl (by decide))) et3
    refine wpl_call _ rfl rfl ht rfl rfl rfl rfl can_35 hcall ?_
    clear hcall
    rintro _ w ⟨rfl, hpost⟩ a ht
    replace hm := (hm.pick (own' := [] ++ [.blk b 28 (Col.cells x)]) [0] rfl (by decide)).backL hpost
    clear hpost
    refine wpl_yes rfl ht rfl ((not_t h2)) ?_
    refine wpl rfl rfl ht (ev_not ht rfl rfl) ?_
    intro a ht
    refine wpl rfl rfl ht (ev_pick_no ht rfl rfl (not_t h2) rfl) ?_
    intro a ht
    refine wpList_nil ?_
    refine then_normal ?_
    by_cases h4 : t3 = true
    · replace H := ite_yes h4 H
      refine wpc_no ht rfl (not_t h4) ?_
      refine wp_skip ?_
      refine then_normal ?_
      refine wp_seq ?_
      refine wp_seq ?_
      refine wpr ?_
      refine wpl rfl rfl ht (ev_move ht rfl rfl) ?_
      intro a ht
      refine wpl rfl rfl ht (ev_nilCheck ht rfl rfl) ?_
      intro a ht
      refine wpl rfl rfl ht (ev_fieldAddr ht rfl rfl fo_28_2) ?_
      intro a ht
      refine wpl rfl rfl ht (ev_load_agg ht rfl rfl (ag_22.trans (by first | rw [length_bytesC] | rfl)) (hm.col_edges 0 rfl)) ?_
      intro a ht
      refine wpl rfl rfl ht (ev_move ht rfl rfl) ?_
      intro a ht
      refine wpList_nil ?_
      refine then_normal ?_
      refine wp_block ?_
      refine wpLoop (fun q a w => ∃ (xs0_1 : Int), impl_Colouring_isColouring.l0 q x xs0_1 = some r ∧ q ≤ k ∧ Tm 45 [(0, .pointer (some ⟨b, 0, none⟩)), (2, .bool false), (22, .agg (bytesC 136 x.e).toArray), (23, .int .i64 xs0_1)] a ∧ Ms X (fps [.blk b 28 (Col.cells x)]) w0 [.blk b 28 (Col.cells x)] [] w) (k0 := k) ⟨0, H, Nat.le_refl _, ht.sub ⟨rfl, rfl, rfl, rfl, trivial⟩, (hm.pick [0] rfl (by decide)).pickφ [] rfl⟩ ?_
      clear H ht hm
      intro q5 a w hJ
      obtain ⟨xs0_1, H, hqq5, ht, hm⟩ := hJ
      cases q5 with
      | zero => cases H
      | succ q5 =>
      rw [impl_Colouring_isColouring.l0] at H
      refine wp_seq ?_
      refine wpr ?_
      refine wpl rfl rfl ht (ev_cmp ht rfl rfl rfl rfl) ?_
      intro a ht
      refine wpList_nil ?_
      refine then_normal ?_
      refine wp_seq ?_
      by_cases h6 : xs0_1 < 136
      · replace H := ite_yes h6 H
        refine wpc_yes ht rfl (decide_eq_true h6) ?_
        refine wp_skip ?_
        refine then_normal ?_
        refine wp_seq ?_
        refine wp_block ?_
        refine wp_seq ?_
        refine wpr ?_
        refine wpl rfl rfl ht (ev_move ht rfl rfl) ?_
        intro a ht
        obtain ⟨t7, et7, H⟩ := bind_get H
        refine wpl rfl rfl ht (ev_index_bytes ht rfl rfl rfl und_22 sc_5 sz1_5 et7) ?_
        intro a ht
        refine wpl rfl rfl ht (ev_assign ht rfl rfl) ?_
        intro a ht
        refine wpl rfl rfl ht (ev_assign ht rfl rfl) ?_
        intro a ht
        refine wpList_nil ?_
        refine then_normal ?_
        refine wp_seq ?_
        refine wpr ?_
        refine wpl rfl rfl ht (ev_move ht rfl rfl) ?_
        intro a ht
        refine wpl rfl rfl ht (ev_convert ht rfl rfl und_5 und_2) ?_
        intro a ht
        refine wpl rfl rfl ht (ev_move ht rfl rfl) ?_
        intro a ht
        refine wpl rfl rfl ht (ev_nilCheck ht rfl rfl) ?_
        intro a ht
        refine wpl rfl rfl ht (ev_fieldAddr ht rfl rfl fo_28_1) ?_
        intro a ht
        refine wpl rfl rfl ht (ev_load ht rfl rfl sc_2 (hm.blk_cell 0 rfl rfl)) ?_
        intro a ht
        refine wpl rfl rfl ht (ev_cmp ht rfl rfl rfl rfl) ?_
        intro a ht
        refine wpl rfl rfl ht (ev_move ht rfl rfl) ?_
        intro a ht
        by_cases h8 : (w64 t7) ≥ x.k
        · replace H := ite_yes h8 H
          refine wpl_no rfl rfl ht rfl (by rw [(decide_eq_true h8)]; decide) ?_
          intro a ht
          refine wpl_no rfl rfl ht rfl (by rw [(decide_eq_true h8)]; decide) ?_
          intro a ht
          refine wpl_no rfl rfl ht rfl (by rw [(decide_eq_true h8)]; decide) ?_
          intro a ht
          refine wpl_no rfl rfl ht rfl (by rw [(decide_eq_true h8)]; decide) ?_
          intro a ht
          refine wpl_no rfl rfl ht rfl (by rw [(decide_eq_true h8)]; decide) ?_
          intro a ht
          refine wpl_none rfl rfl ht rfl ?_
          intro a ht
          refine wpl_none rfl rfl ht rfl ?_
          intro a ht
          refine wpl_no rfl rfl ht rfl (by rw [(decide_eq_true h8)]; decide) ?_
          intro a ht
          refine wpl rfl rfl ht (ev_pick_yes ht rfl rfl (decide_eq_true h8) rfl) ?_
          intro a ht
          refine wpList_nil ?_
          refine then_normal ?_
          refine wpc_yes ht rfl rfl ?_
          refine wp_seq ?_
          refine wpr ?_
          refine wpl rfl rfl ht (ev_assign ht rfl rfl) ?_
          intro a ht
          refine wpList_nil ?_
          refine then_normal ?_
          refine wp_ret ?_
          refine blk_ret ?_
          refine then_ret ?_
          refine then_ret ?_
          refine blk_ret ?_
          refine then_ret ?_
          have hres := ht.res (P := Try.prog) (w := w) (rs := [.tmp 2]) (vs := [.bool false]) (.tmp rfl .nil)
          obtain rfl := Option.some.inj H
          exact leave ht rfl hres ⟨rfl, ((hm.pick [0] rfl (by decide)).pickφ [] rfl).post fun _ h => h⟩
        · replace H := ite_no h8 H
          refine wpl_yes rfl ht rfl ((decide_eq_false h8)) ?_
          refine wpl rfl rfl ht (ev_move ht rfl rfl) ?_
          intro a ht
          refine wpl_yes rfl ht rfl ((decide_eq_false h8)) ?_
          refine wpl rfl rfl ht (ev_move ht rfl rfl) ?_
          intro a ht
          refine wpl_yes rfl ht rfl ((decide_eq_false h8)) ?_
          obtain ⟨t9, et9, H⟩ := bind_get H
          have hcall := impl_Colouring_edges.calls _ _ b x _ ((fun (hq : Ms _ _ _ ([.blk b 28 (Col.cells x)] ++ []) _ _) => hq.lend (φp := []) (allRO_nil)) (hm.pick (own' := [.blk b 28 (Col.cells x)] ++ []) [0] rfl (by decide))) et9
          refine wpl_call _ rfl rfl ht rfl rfl rfl rfl can_62 hcall ?_
          clear hcall
          rintro _ w ⟨rfl, hpost⟩ a ht
          replace hm := (hm.pick (own' := [.blk b 28 (Col.cells x)] ++ []) [0] rfl (by decide)).backL hpost
          clear hpost
          refine wpl_yes rfl ht rfl ((decide_eq_false h8)) ?_
          refine wpl rfl rfl ht (ev_cmp ht rfl rfl rfl rfl) ?_
          intro a ht
          refine wpl_yes rfl ht rfl ((decide_eq_false h8)) ?_
          refine wpl rfl rfl ht (ev_move ht rfl rfl) ?_
          intro a ht
          by_cases h10 : xs0_1 ≥ t9
          · replace H := ite_yes h10 H
            refine wpl_yes rfl ht rfl ((decide_eq_true h10)) ?_
            refine wpl rfl rfl ht (ev_move ht rfl rfl) ?_
            intro a ht
            refine wpl_yes rfl ht rfl ((decide_eq_true h10)) ?_
            refine wpl rfl rfl ht (ev_cmp ht rfl rfl rfl rfl) ?_
            intro a ht
            refine wpl_yes rfl ht rfl ((decide_eq_false h8)) ?_
            refine wpl rfl rfl ht (ev_pick_yes ht rfl rfl (decide_eq_true h10) rfl) ?_
            intro a ht
            refine wpl rfl rfl ht (ev_pick_no ht rfl rfl (decide_eq_false h8) rfl) ?_
            intro a ht
            refine wpList_nil ?_
            refine then_normal ?_
            by_cases h11 : t7 ≠ 0
            · replace H := ite_yes h11 H
              refine wpc_yes ht rfl (decide_eq_true h11) ?_
              refine wp_seq ?_
              refine wpr ?_
              refine wpl rfl rfl ht (ev_assign ht rfl rfl) ?_
              intro a ht
              refine wpList_nil ?_
              refine then_normal ?_
              refine wp_ret ?_
              refine blk_ret ?_
              refine then_ret ?_
              refine then_ret ?_
              refine blk_ret ?_
              refine then_ret ?_
              have hres := ht.res (P := Try.prog) (w := w) (rs := [.tmp 2]) (vs := [.bool false]) (.tmp rfl .nil)
              obtain rfl := Option.some.inj H
              exact leave ht rfl hres ⟨rfl, ((hm.pick [0] rfl (by decide)).pickφ [] rfl).post fun _ h => h⟩
            · replace H := ite_no h11 H
              refine wpc_no ht rfl (decide_eq_false h11) ?_
              refine wp_skip ?_
              refine blk_normal ?_
              refine then_normal ?_
              refine wpr ?_
              refine wpl rfl rfl ht (ev_arith ht rfl rfl rfl rfl) ?_
              intro a ht
              refine wpl rfl rfl ht (ev_move ht rfl rfl) ?_
              intro a ht
              refine wpList_nil ?_
              exact then_normal ⟨q5, by omega, (w64 (xs0_1 + 1)), H, by omega, ht.sub ⟨rfl, rfl, rfl, rfl, trivial⟩, (hm.pick [0] rfl (by decide)).pickφ [] rfl⟩
          · replace H := ite_no h10 H
            refine wpl_no rfl rfl ht rfl (by rw [(decide_eq_false h10)]; decide) ?_
            intro a ht
            refine wpl_no rfl rfl ht rfl (by rw [(decide_eq_false h10)]; decide) ?_
            intro a ht
            refine wpl_yes rfl ht rfl ((decide_eq_false h8)) ?_
            refine wpl rfl rfl ht (ev_pick_no ht rfl rfl (decide_eq_false h10) rfl) ?_
            intro a ht
            refine wpl rfl rfl ht (ev_pick_no ht rfl rfl (decide_eq_false h8) rfl) ?_
            intro a ht
            refine wpList_nil ?_
            refine then_normal ?_
            refine wpc_no ht rfl rfl ?_
            refine wp_skip ?_
            refine blk_normal ?_
            refine then_normal ?_
            refine wpr ?_
            refine wpl rfl rfl ht (ev_arith ht rfl rfl rfl rfl) ?_
            intro a ht
            refine wpl rfl rfl ht (ev_move ht rfl rfl) ?_
            intro a ht
            refine wpList_nil ?_
            exact then_normal ⟨q5, by omega, (w64 (xs0_1 + 1)), H, by omega, ht.sub ⟨rfl, rfl, rfl, rfl, trivial⟩, (hm.pick [0] rfl (by decide)).pickφ [] rfl⟩
      · replace H := ite_no h6 H
        refine wpc_no ht rfl (decide_eq_false h6) ?_
        refine wp_exit ?_
        refine then_exit ?_
        refine then_exit ?_
        refine blk_hit ?_
        refine then_normal ?_
        refine wp_seq ?_
        refine wpr ?_
        refine wpl rfl rfl ht (ev_assign ht rfl rfl) ?_
        intro a ht
        refine wpList_nil ?_
        refine then_normal ?_
        refine wp_ret ?_
        have hres := ht.res (P := Try.prog) (w := w) (rs := [.tmp 2]) (vs := [.bool true]) (.tmp rfl .nil)
        obtain rfl := Option.some.inj H
        exact leave ht rfl hres ⟨rfl, ((hm.pick [0] rfl (by decide)).pickφ [] rfl).post fun _ h => h⟩
    · replace H := ite_no h4 H
      refine wpc_yes ht rfl (not_f (Bool.eq_false_iff.mpr h4)) ?_
      refine wp_seq ?_
      refine wpr ?_
      refine wpl rfl rfl ht (ev_assign ht rfl rfl) ?_
      intro a ht
      refine wpList_nil ?_
      refine then_normal ?_
      refine wp_ret ?_
      refine then_ret ?_
      have hres := ht.res (P := Try.prog) (w := w) (rs := [.tmp 2]) (vs := [.bool false]) (.tmp rfl .nil)
      obtain rfl := Option.some.inj H
      exact leave ht rfl hres ⟨rfl, ((hm.pick [0] rfl (by decide)).pickφ [] rfl).post fun _ h => h⟩
  · replace H := ite_no h2 H
    refine wpl_no rfl rfl ht rfl (by rw [(not_f (Bool.eq_false_iff.mpr h2))]; decide) ?_
    intro a ht
    refine wpl_no rfl rfl ht rfl (by rw [(not_f (Bool.eq_false_iff.mpr h2))]; decide) ?_
    intro a ht
    refine wpl_no rfl rfl ht rfl (by rw [(not_f (Bool.eq_false_iff.mpr h2))]; decide) ?_
    intro a ht
    refine wpl_no rfl rfl ht rfl (by rw [(not_f (Bool.eq_false_iff.mpr h2))]; decide) ?_
    intro a ht
    refine wpl_no rfl rfl ht rfl (by rw [(not_f (Bool.eq_false_iff.mpr h2))]; decide) ?_
    intro a ht
    refine wpl_no rfl rfl ht rfl (by rw [(not_f (Bool.eq_false_iff.mpr h2))]; decide) ?_
    intro a ht
    refine wpl rfl rfl ht (ev_pick_yes ht rfl rfl (not_f (Bool.eq_false_iff.mpr h2)) rfl) ?_
    intro a ht
    refine wpList_nil ?_
    refine then_normal ?_
    refine wpc_yes ht rfl rfl ?_
    refine wp_seq ?_
    refine wpr ?_
    refine wpl rfl rfl ht (ev_assign ht rfl rfl) ?_
    intro a ht
    refine wpList_nil ?_
    refine then_normal ?_
    refine wp_ret ?_
    refine then_ret ?_
    have hres := ht.res (P := Try.prog) (w := w) (rs := [.tmp 2]) (vs := [.bool false]) (.tmp rfl .nil)
    obtain rfl := Option.some.inj H
    exact leave ht rfl hres ⟨rfl, ((hm.pick [0] rfl (by decide)).pickφ [] rfl).post fun _ h => h⟩

/-! ### impl_Colouring_hasColour: function 44 ((*loop.example/g01362/impl.Colouring).hasColour) -/
def impl_Colouring_hasColour.f (x : Col) (c : Int) : Option (Bool) := (impl_in.f c 0 (w64 (x.k - 1))).bind fun t1 => some t1
set_option maxRecDepth 100000 in
set_option maxHeartbeats 1000000 in
theorem impl_Colouring_hasColour.calls (X : List Nat) (w0 : World) (b : Nat) (x : Col) (c : Int) (r : Bool)
    (hp : Pre X w0 [.blk b 28 (Col.cells x)] []) (H : impl_Colouring_hasColour.f x c = some r) :
    Calls Try.prog 44 [.pointer (some ⟨b, 0, none⟩), .int .i64 c].toArray w0 (Ret fun v w => v = .bool r ∧ Post X (fps [.blk b 28 (Col.cells x)]) w0 [.blk b 28 (Col.cells x)] [] w) := by
  unfold impl_Colouring_hasColour.f at H
  refine enterM (n := 12) hp Try.func44 rfl rfl (Nat.le_of_ble_eq_true rfl) fun a w ht hm => ?_
  refine wp_seq ?_
  refine wpr ?_
  refine wpl rfl rfl ht (ev_assign ht rfl rfl) ?_
  intro a ht
  refine wpList_nil ?_
  refine then_normal ?_
  refine wp_seq ?_
  refine wpr ?_
  refine wpl rfl rfl ht (ev_move ht rfl rfl) ?_
  intro a ht
  refine wpl rfl rfl ht (ev_move ht rfl rfl) ?_
  intro a ht
  refine wpl rfl rfl ht (ev_nilCheck ht rfl rfl) ?_
  intro a ht
  refine wpl rfl rfl ht (ev_fieldAddr ht rfl rfl fo_28_1) ?_
  intro a ht
  refine wpl rfl rfl ht (ev_load ht rfl rfl sc_2 (hm.blk_cell 0 rfl rfl)) ?_
  intro a ht
  refine wpl rfl rfl ht (ev_arith ht rfl rfl rfl rfl) ?_
  intro a ht
  obtain ⟨t1, et1, H⟩ := bind_get H
  have hcall := impl_in.calls _ _ c 0 (w64 (x.k - 1)) _ ((fun (hq : Ms _ _ _ ([] ++ [.blk b 28 (Col.cells x)]) _ _) => hq.lend (φp := []) (allRO_nil)) (hm.pick (own' := [] ++ [.blk b 28 (Col.cells x)]) [0] rfl (by decide))) et1
  refine wpl_call _ rfl rfl ht rfl rfl rfl rfl can_35 hcall ?_
  clear hcall
  rintro _ w ⟨rfl, hpost⟩ a ht
  replace hm := (hm.pick (own' := [] ++ [.blk b 28 (Col.cells x)]) [0] rfl (by decide)).backL hpost
  clear hpost
  refine wpl rfl rfl ht (ev_assign ht rfl rfl) ?_
  intro a ht
  refine wpList_nil ?_
  refine then_normal ?_
  refine wp_ret ?_
  have hres := ht.res (P := Try.prog) (w := w) (rs := [.tmp 4]) (vs := [.bool t1]) (.tmp rfl .nil)
  obtain rfl := Option.some.inj H
  exact leave ht rfl hres ⟨rfl, ((hm.pick [0] rfl (by decide)).pickφ [] rfl).post fun _ h => h⟩

/-! ### impl_Colouring_colourCode_1: function 43 ((*loop.example/g01362/impl.Colouring).colourCode$1) -/
def impl_Colouring_colourCode_1.f (x : Col) (x2 : Int) (x3 : Bool) : Option (Bool) := (impl_Colouring_hasColour.f x x2).bind fun t1 => if t1 = true then (some x3) else (some false)
set_option maxRecDepth 100000 in
set_option maxHeartbeats 1000000 in
theorem impl_Colouring_colourCode_1.calls (X : List Nat) (w0 : World) (b : Nat) (b2 : Nat) (b3 : Nat) (b4 : Nat) (x : Col) (x2 : Int) (x3 : Bool) (r : Bool)
    (hp : Pre X w0 [.blk b 55 [.pointer (some ⟨b2, 0, none⟩)], .blk b2 28 (Col.cells x), .blk b3 2 [.int .i64 x2], .blk b4 4 [.bool x3]] []) (H : impl_Colouring_colourCode_1.f x x2 x3 = some r) :
    Calls Try.prog 43 [.pointer (some ⟨b, 0, none⟩), .pointer (some ⟨b3, 0, none⟩), .pointer (some ⟨b4, 0, none⟩)].toArray w0 (Ret fun v w => v = .bool r ∧ Post X (fps [.blk b 55 [.pointer (some ⟨b2, 0, none⟩)], .blk b2 28 (Col.cells x), .blk b3 2 [.int .i64 x2], .blk b4 4 [.bool x3]]) w0 [.blk b 55 [.pointer (some ⟨b2, 0, none⟩)], .blk b2 28 (Col.cells x), .blk b3 2 [.int .i64 x2], .blk b4 4 [.bool x3]] [] w) := by
  unfold impl_Colouring_colourCode_1.f at H
  refine enterM (n := 10) hp Try.func43 rfl rfl (Nat.le_of_ble_eq_true rfl) fun a w ht hm => ?_
  refine wp_seq ?_
  refine wpr ?_
  refine wpl rfl rfl ht (ev_assign ht rfl rfl) ?_
  intro a ht
  refine wpList_nil ?_
  refine then_normal ?_
  refine wp_seq ?_
  refine wpr ?_
  refine wpl rfl rfl ht (ev_load ht rfl rfl sc_55 (hm.blk_cell 0 rfl rfl)) ?_
  intro a ht
  refine wpl rfl rfl ht (ev_load ht rfl rfl sc_2 (hm.blk_cell 2 rfl rfl)) ?_
  intro a ht
  obtain ⟨t1, et1, H⟩ := bind_get H
  have hcall := impl_Colouring_hasColour.calls _ _ b2 x x2 _ ((fun (hq : Ms _ _ _ ([.blk b2 28 (Col.cells x)] ++ [.blk b 55 [.pointer (some ⟨b2, 0, none⟩)], .blk b3 2 [.int .i64 x2], .blk b4 4 [.bool x3]]) _ _) => hq.lend (φp := []) (allRO_nil)) (hm.pick (own' := [.blk b2 28 (Col.cells x)] ++ [.blk b 55 [.pointer (some ⟨b2, 0, none⟩)], .blk b3 2 [.int .i64 x2], .blk b4 4 [.bool x3]]) [1, 0, 2, 3] rfl (by decide))) et1
  refine wpl_call _ rfl rfl ht rfl rfl rfl rfl can_44 hcall ?_
  clear hcall
  rintro _ w ⟨rfl, hpost⟩ a ht
  replace hm := (hm.pick (own' := [.blk b2 28 (Col.cells x)] ++ [.blk b 55 [.pointer (some ⟨b2, 0, none⟩)], .blk b3 2 [.int .i64 x2], .blk b4 4 [.bool x3]]) [1, 0, 2, 3] rfl (by decide)).backL hpost
  clear hpost
  refine wpl rfl rfl ht (ev_move ht rfl rfl) ?_
  intro a ht
  by_cases h2 : t1 = true
  · replace H := ite_yes h2 H
    refine wpl_yes rfl ht rfl (h2) ?_
    refine wpl rfl rfl ht (ev_load ht rfl rfl sc_4 (hm.blk_cell 3 rfl rfl)) ?_
    intro a ht
    refine wpl rfl rfl ht (ev_pick_yes ht rfl rfl h2 rfl) ?_
    intro a ht
    refine wpl rfl rfl ht (ev_assign ht rfl rfl) ?_
    intro a ht
    refine wpList_nil ?_
    refine then_normal ?_
    refine wp_ret ?_
    have hres := ht.res (P := Try.prog) (w := w) (rs := [.tmp 3]) (vs := [.bool x3]) (.tmp rfl .nil)
    obtain rfl := Option.some.inj H
    exact leave ht rfl hres ⟨rfl, ((hm.pick [1, 0, 2, 3] rfl (by decide)).pickφ [] rfl).post fun _ h => h⟩
  · replace H := ite_no h2 H
    refine wpl_no rfl rfl ht rfl (by rw [(Bool.eq_false_iff.mpr h2)]; decide) ?_
    intro a ht
    refine wpl rfl rfl ht (ev_pick_no ht rfl rfl (Bool.eq_false_iff.mpr h2) rfl) ?_
    intro a ht
    refine wpl rfl rfl ht (ev_assign ht rfl rfl) ?_
    intro a ht
    refine wpList_nil ?_
    refine then_normal ?_
    refine wp_ret ?_
    have hres := ht.res (P := Try.prog) (w := w) (rs := [.tmp 3]) (vs := [.bool false]) (.tmp rfl .nil)
    obtain rfl := Option.some.inj H
    exact leave ht rfl hres ⟨rfl, ((hm.pick [1, 0, 2, 3] rfl (by decide)).pickφ [] rfl).post fun _ h => h⟩

/-! ### impl_Colouring_code__Colouring_colourCode_1: function 42 ((*loop.example/g01362/impl.Colouring).code) -/
def impl_Colouring_code__Colouring_colourCode_1.f (k : Nat) (x : Col) (right : Int) (right2 : Bool) : Option (Int) := (impl_Colouring_isColouring.f k x).bind fun t1 => if t1 = true then ((impl_Colouring_colourCode_1.f x right right2).bind fun t3 => if t3 = true then (some 0) else (some 2)) else (some 1)
set_option maxRecDepth 100000 in
set_option maxHeartbeats 1000000 in
theorem impl_Colouring_code__Colouring_colourCode_1.calls (k : Nat) (X : List Nat) (w0 : World) (b : Nat) (b2 : Nat) (b3 : Nat) (b4 : Nat) (x : Col) (right : Int) (right2 : Bool) (r : Int)
    (hp : Pre X w0 [.blk b 28 (Col.cells x), .blk b2 55 [.pointer (some ⟨b, 0, none⟩)], .blk b3 2 [.int .i64 right], .blk b4 4 [.bool right2]] []) (H : impl_Colouring_code__Colouring_colourCode_1.f k x right right2 = some r) :
    Calls Try.prog 42 [.pointer (some ⟨b, 0, none⟩), .func (.func 43) [].toArray [.pointer (some ⟨b2, 0, none⟩), .pointer (some ⟨b3, 0, none⟩), .pointer (some ⟨b4, 0, none⟩)].toArray].toArray w0 (Ret fun v w => v = .int .i64 r ∧ Post X (fps [.blk b 28 (Col.cells x), .blk b2 55 [.pointer (some ⟨b, 0, none⟩)], .blk b3 2 [.int .i64 right], .blk b4 4 [.bool right2]]) w0 [.blk b 28 (Col.cells x), .blk b2 55 [.pointer (some ⟨b, 0, none⟩)], .blk b3 2 [.int .i64 right], .blk b4 4 [.bool right2]] [] w) := by
  unfold impl_Colouring_code__Colouring_colourCode_1.f at H
  refine enterM (n := 13) hp Try.func42 rfl rfl (Nat.le_of_ble_eq_true rfl) fun a w ht hm => ?_
  refine wp_seq ?_
  refine wpr ?_
  refine wpl rfl rfl ht (ev_assign ht rfl rfl) ?_
  intro a ht
  refine wpList_nil ?_
  refine then_normal ?_
  refine wp_seq ?_
  refine wp_block ?_
  refine wp_seq ?_
  refine wpr ?_
  refine wpl rfl rfl ht (ev_move ht rfl rfl) ?_
  intro a ht
  obtain ⟨t1, et1, H⟩ := bind_get H
  have hcall := impl_Colouring_isColouring.calls k _ _ b x _ ((fun (hq : Ms _ _ _ ([.blk b 28 (Col.cells x)] ++ [.blk b2 55 [.pointer (some ⟨b, 0, none⟩)], .blk b3 2 [.int .i64 right], .blk b4 4 [.bool right2]]) _ _) => hq.lend (φp := []) (allRO_nil)) (hm.pick (own' := [.blk b 28 (Col.cells x)] ++ [.blk b2 55 [.pointer (some ⟨b, 0, none⟩)], .blk b3 2 [.int .i64 right], .blk b4 4 [.bool right2]]) [0, 1, 2, 3] rfl (by decide))) et1
  refine wpl_call _ rfl rfl ht rfl rfl rfl rfl can_55 hcall ?_
  clear hcall
  rintro _ w ⟨rfl, hpost⟩ a ht
  replace hm := (hm.pick (own' := [.blk b 28 (Col.cells x)] ++ [.blk b2 55 [.pointer (some ⟨b, 0, none⟩)], .blk b3 2 [.int .i64 right], .blk b4 4 [.bool right2]]) [0, 1, 2, 3] rfl (by decide)).backL hpost
  clear hpost
  refine wpl rfl rfl ht (ev_not ht rfl rfl) ?_
  intro a ht
  refine wpl rfl rfl ht (ev_assign ht rfl rfl) ?_
  intro a ht
  refine wpList_nil ?_
  refine then_normal ?_
  by_cases h2 : t1 = true
  · replace H := ite_yes h2 H
    refine wpc_no ht rfl (not_t h2) ?_
    refine wp_seq ?_
    refine wpr ?_
    refine wpl rfl rfl ht (ev_move ht rfl rfl) ?_
    intro a ht
    obtain ⟨t3, et3, H⟩ := bind_get H
    have hcall := impl_Colouring_colourCode_1.calls _ _ b2 b b3 b4 x right right2 _ ((fun (hq : Ms _ _ _ ([.blk b2 55 [.pointer (some ⟨b, 0, none⟩)], .blk b 28 (Col.cells x), .blk b3 2 [.int .i64 right], .blk b4 4 [.bool right2]] ++ []) _ _) => hq.lend (φp := []) (allRO_nil)) (hm.pick (own' := [.blk b2 55 [.pointer (some ⟨b, 0, none⟩)], .blk b 28 (Col.cells x), .blk b3 2 [.int .i64 right], .blk b4 4 [.bool right2]] ++ []) [1, 0, 2, 3] rfl (by decide))) et3
    refine wpl_call _ rfl rfl ht rfl rfl rfl rfl can_43 hcall ?_
    clear hcall
    rintro _ w ⟨rfl, hpost⟩ a ht
    replace hm := (hm.pick (own' := [.blk b2 55 [.pointer (some ⟨b, 0, none⟩)], .blk b 28 (Col.cells x), .blk b3 2 [.int .i64 right], .blk b4 4 [.bool right2]] ++ []) [1, 0, 2, 3] rfl (by decide)).backL hpost
    clear hpost
    refine wpl rfl rfl ht (ev_not ht rfl rfl) ?_
    intro a ht
    refine wpl rfl rfl ht (ev_assign ht rfl rfl) ?_
    intro a ht
    refine wpList_nil ?_
    refine then_normal ?_
    by_cases h4 : t3 = true
    · replace H := ite_yes h4 H
      refine wpc_no ht rfl (not_t h4) ?_
      refine wp_skip ?_
      refine blk_normal ?_
      refine then_normal ?_
      refine wp_seq ?_
      refine wpr ?_
      refine wpl rfl rfl ht (ev_assign ht rfl rfl) ?_
      intro a ht
      refine wpList_nil ?_
      refine then_normal ?_
      refine wp_ret ?_
      have hres := ht.res (P := Try.prog) (w := w) (rs := [.tmp 4]) (vs := [.int .i64 0]) (.tmp rfl .nil)
      obtain rfl := Option.some.inj H
      exact leave ht rfl hres ⟨rfl, ((hm.pick [1, 0, 2, 3] rfl (by decide)).pickφ [] rfl).post fun _ h => h⟩
    · replace H := ite_no h4 H
      refine wpc_yes ht rfl (not_f (Bool.eq_false_iff.mpr h4)) ?_
      refine wp_seq ?_
      refine wpr ?_
      refine wpl rfl rfl ht (ev_assign ht rfl rfl) ?_
      intro a ht
      refine wpList_nil ?_
      refine then_normal ?_
      refine wp_ret ?_
      refine blk_ret ?_
      refine then_ret ?_
      have hres := ht.res (P := Try.prog) (w := w) (rs := [.tmp 4]) (vs := [.int .i64 2]) (.tmp rfl .nil)
      obtain rfl := Option.some.inj H
      exact leave ht rfl hres ⟨rfl, ((hm.pick [1, 0, 2, 3] rfl (by decide)).pickφ [] rfl).post fun _ h => h⟩
  · replace H := ite_no h2 H
    refine wpc_yes ht rfl (not_f (Bool.eq_false_iff.mpr h2)) ?_
    refine wp_seq ?_
    refine wpr ?_
    refine wpl rfl rfl ht (ev_assign ht rfl rfl) ?_
    intro a ht
    refine wpList_nil ?_
    refine then_normal ?_
    refine wp_ret ?_
    refine blk_ret ?_
    refine then_ret ?_
    have hres := ht.res (P := Try.prog) (w := w) (rs := [.tmp 4]) (vs := [.int .i64 1]) (.tmp rfl .nil)
    obtain rfl := Option.some.inj H
    exact leave ht rfl hres ⟨rfl, ((hm.pick [0, 1, 2, 3] rfl (by decide)).pickφ [] rfl).post fun _ h => h⟩

/-! ### impl_Colouring_colourCode: function 29 ((*loop.example/g01362/impl.Colouring).colourCode) -/
def impl_Colouring_colourCode.f (k : Nat) (x : Col) (c : Int) (right : Bool) : Option (Int) := (impl_Colouring_code__Colouring_colourCode_1.f k x c right).bind fun t4 => some t4
set_option maxRecDepth 100000 in
set_option maxHeartbeats 1000000 in
theorem impl_Colouring_colourCode.calls (k : Nat) (X : List Nat) (w0 : World) (b : Nat) (x : Col) (c : Int) (right : Bool) (r : Int)
    (hp : Pre X w0 [.blk b 28 (Col.cells x)] []) (H : impl_Colouring_colourCode.f k x c right = some r) :
    Calls Try.prog 29 [.pointer (some ⟨b, 0, none⟩), .int .i64 c, .bool right].toArray w0 (Ret fun v w => v = .int .i64 r ∧ Post X (fps [.blk b 28 (Col.cells x)]) w0 [.blk b 28 (Col.cells x)] [] w) := by
  unfold impl_Colouring_colourCode.f at H
  refine enterM (n := 10) hp Try.func29 rfl rfl (Nat.le_of_ble_eq_true rfl) fun a w ht hm => ?_
  refine wp_seq ?_
  refine wpr ?_
  refine wpl_box rfl rfl ht hm rfl rfl rfl ?_
  intro b1 a ht w hm
  refine wpl_box rfl rfl ht hm rfl rfl rfl ?_
  intro b2 a ht w hm
  refine wpl_box rfl rfl ht hm rfl rfl rfl ?_
  intro b3 a ht w hm
  refine wpl rfl rfl ht (ev_assign ht rfl rfl) ?_
  intro a ht
  refine wpList_nil ?_
  refine then_normal ?_
  refine wp_seq ?_
  refine wpr ?_
  refine wpl rfl rfl ht (ev_load ht rfl rfl sc_55 (hm.blk_cell 2 rfl rfl)) ?_
  intro a ht
  refine wpl rfl rfl ht (ev_makeFunc ht rfl rfl rfl) ?_
  intro a ht
  obtain ⟨t4, et4, H⟩ := bind_get H
  have hcall := impl_Colouring_code__Colouring_colourCode_1.calls k _ _ b b1 b2 b3 x c right _ ((fun (hq : Ms _ _ _ ([.blk b 28 (Col.cells x), .blk b1 55 [.pointer (some ⟨b, 0, none⟩)], .blk b2 2 [.int .i64 c], .blk b3 4 [.bool right]] ++ []) _ _) => hq.lend (φp := []) (allRO_nil)) (hm.pick (own' := [.blk b 28 (Col.cells x), .blk b1 55 [.pointer (some ⟨b, 0, none⟩)], .blk b2 2 [.int .i64 c], .blk b3 4 [.bool right]] ++ []) [3, 2, 1, 0] rfl (by decide))) et4
  refine wpl_call _ rfl rfl ht rfl rfl rfl rfl can_42 hcall ?_
  clear hcall
  rintro _ w ⟨rfl, hpost⟩ a ht
  replace hm := (hm.pick (own' := [.blk b 28 (Col.cells x), .blk b1 55 [.pointer (some ⟨b, 0, none⟩)], .blk b2 2 [.int .i64 c], .blk b3 4 [.bool right]] ++ []) [3, 2, 1, 0] rfl (by decide)).backL hpost
  clear hpost
  refine wpl rfl rfl ht (ev_assign ht rfl rfl) ?_
  intro a ht
  refine wpList_nil ?_
  refine then_normal ?_
  refine wp_ret ?_
  have hres := ht.res (P := Try.prog) (w := w) (rs := [.tmp 6]) (vs := [.int .i64 t4]) (.tmp rfl .nil)
  obtain rfl := Option.some.inj H
  exact leave ht rfl hres ⟨rfl, ((hm.pick [0] rfl (by decide)).pickφ [] rfl).post fun _ h => h⟩

end Go.Proofs.Ytjhcacfhahpdgaa.G
