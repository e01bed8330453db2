/- What each Go function computes, as a Lean function, and the proof that it does: written by a program of this session (wip/gen), part 4. -/
import Derived.Test.YtbgniopmmankdaaGFnExactLeastForm3
namespace Go.Proofs.Ytbgniopmmankdaa.G
open Go Go.RowKit Go.Proofs.Ytbgniopmmankdaa.K
set_option linter.unusedVariables false
set_option linter.unusedSimpArgs false

/-! ### impl_in: function 65 (loop.example/g01362/impl.in) -/
def impl_in.f (n_ : Int) (low : Int) (high : Int) : Option (Bool) := if n_ ≥ low then (some (decide (n_ ≤ high))) else (some false)
set_option maxRecDepth 100000 in
set_option maxHeartbeats 1000000 in
theorem impl_in.calls (X : List Nat) (w0 : World)  (n_ : Int) (low : Int) (high : Int) (r : Bool)
    (hp : Pre X w0 [] []) (H : impl_in.f n_ low high = some r) :
    Calls Try.prog 65 [.int .i64 n_, .int .i64 low, .int .i64 high].toArray w0 (Ret fun v w => v = .bool r ∧ Post X (fps []) w0 [] [] w) := by
  unfold impl_in.f at H
  refine enterM (n := 15) hp Try.func65 rfl rfl (Nat.le_of_ble_eq_true rfl) fun a w ht hm => ?_
  refine wp_seq ?_
  refine wpr ?_
  refine wpl rfl rfl ht (ev_assign ht rfl rfl) ?_
  intro a ht
  refine wpList_nil ?_
  refine then_normal ?_
  refine wp_seq ?_
  refine wpr ?_
  refine wpl rfl rfl ht (ev_move ht rfl rfl) ?_
  intro a ht
  refine wpl rfl rfl ht (ev_move ht rfl rfl) ?_
  intro a ht
  refine wpl rfl rfl ht (ev_cmp ht rfl rfl rfl rfl) ?_
  intro a ht
  refine wpl rfl rfl ht (ev_move ht rfl rfl) ?_
  intro a ht
  by_cases h1 : n_ ≥ low
  · replace H := ite_yes h1 H
    refine wpl_yes rfl ht rfl ((decide_eq_true h1)) ?_
    refine wpl rfl rfl ht (ev_move ht rfl rfl) ?_
    intro a ht
    refine wpl_yes rfl ht rfl ((decide_eq_true h1)) ?_
    refine wpl rfl rfl ht (ev_move ht rfl rfl) ?_
    intro a ht
    refine wpl_yes rfl ht rfl ((decide_eq_true h1)) ?_
    refine wpl rfl rfl ht (ev_cmp ht rfl rfl rfl rfl) ?_
    intro a ht
    refine wpl rfl rfl ht (ev_pick_yes ht rfl rfl (decide_eq_true h1) rfl) ?_
    intro a ht
    refine wpl rfl rfl ht (ev_assign ht rfl rfl) ?_
    intro a ht
    refine wpList_nil ?_
    refine then_normal ?_
    refine wp_ret ?_
    have hres := ht.res (P := Try.prog) (w := w) (rs := [.tmp 6]) (vs := [.bool (decide (n_ ≤ high))]) (.tmp rfl .nil)
    obtain rfl := Option.some.inj H
    exact leave ht rfl hres ⟨rfl, ((hm.pick [] rfl (by decide)).pickφ [] rfl).post fun _ h => h⟩
  · replace H := ite_no h1 H
    refine wpl_no rfl rfl ht rfl (by rw [(decide_eq_false h1)]; decide) ?_
    intro a ht
    refine wpl_no rfl rfl ht rfl (by rw [(decide_eq_false h1)]; decide) ?_
    intro a ht
    refine wpl_no rfl rfl ht rfl (by rw [(decide_eq_false h1)]; decide) ?_
    intro a ht
    refine wpl rfl rfl ht (ev_pick_no ht rfl rfl (decide_eq_false h1) rfl) ?_
    intro a ht
    refine wpl rfl rfl ht (ev_assign ht rfl rfl) ?_
    intro a ht
    refine wpList_nil ?_
    refine then_normal ?_
    refine wp_ret ?_
    have hres := ht.res (P := Try.prog) (w := w) (rs := [.tmp 6]) (vs := [.bool false]) (.tmp rfl .nil)
    obtain rfl := Option.some.inj H
    exact leave ht rfl hres ⟨rfl, ((hm.pick [] rfl (by decide)).pickφ [] rfl).post fun _ h => h⟩

/-! ### impl_Colouring_edges: function 66 ((*loop.example/g01362/impl.Colouring).edges) -/
def impl_Colouring_edges.f (x : Col) : Option (Int) := some (w64 (Int.tdiv (w64 (x.p * (w64 (x.p - 1)))) 2))
set_option maxRecDepth 100000 in
set_option maxHeartbeats 1000000 in
theorem impl_Colouring_edges.calls (X : List Nat) (w0 : World) (b : Nat) (x : Col) (r : Int)
    (hp : Pre X w0 [.blk b 27 (Col.cells x)] []) (H : impl_Colouring_edges.f x = some r) :
    Calls Try.prog 66 [.pointer (some ⟨b, 0, none⟩)].toArray w0 (Ret fun v w => v = .int .i64 r ∧ Post X (fps [.blk b 27 (Col.cells x)]) w0 [.blk b 27 (Col.cells x)] [] w) := by
  unfold impl_Colouring_edges.f at H
  refine enterM (n := 14) hp Try.func66 rfl rfl (Nat.le_of_ble_eq_true rfl) fun a w ht hm => ?_
  refine wp_seq ?_
  refine wpr ?_
  refine wpl rfl rfl ht (ev_assign ht rfl rfl) ?_
  intro a ht
  refine wpList_nil ?_
  refine then_normal ?_
  refine wp_seq ?_
  refine wph_begin (fun w => Ms X (fps [.blk b 27 (Col.cells x)]) w0 [.blk b 27 (Col.cells x)] [] w) mixed ?_
  replace hm := hm.drew
  have hS : Ms X (fps [.blk b 27 (Col.cells x)]) w0 [.blk b 27 (Col.cells x)] [] w.drew := (hm.pick [0] rfl (by decide)).pickφ [] rfl
  generalize w.drew = w at hm hS ⊢
  refine wph_take (i := 0) rfl (by kernel_rfl) (by kernel_rfl) (by kernel_rfl) (fun _ _ _ h => h) rfl ht hS (wanted_plain rfl) (fun w hm => ev_move ht rfl rfl) ?_
  intro a ht
  refine wph_take (i := 1) rfl (by kernel_rfl) (by kernel_rfl) (by kernel_rfl) (fun _ _ _ h => h) rfl ht hS (wanted_plain rfl) (fun w hm => ev_nilCheck ht rfl rfl) ?_
  intro a ht
  refine wph_take (i := 2) rfl (by kernel_rfl) (by kernel_rfl) (by kernel_rfl) (fun _ _ _ h => h) rfl ht hS (wanted_plain rfl) (fun w hm => ev_fieldAddr ht rfl rfl fo_27_0) ?_
  intro a ht
  refine wph_take (i := 3) rfl (by kernel_rfl) (by kernel_rfl) (by kernel_rfl) (fun _ _ _ h => h) rfl ht hS (wanted_plain rfl) (fun w hm => ev_load ht rfl rfl sc_2 (hm.blk_cell 0 rfl rfl)) ?_
  intro a ht
  refine wph_take (i := 4) rfl (by kernel_rfl) (by kernel_rfl) (by kernel_rfl) (fun _ _ _ h => h) rfl ht hS (wanted_plain rfl) (fun w hm => ev_move ht rfl rfl) ?_
  intro a ht
  refine wph_take (i := 5) rfl (by kernel_rfl) (by kernel_rfl) (by kernel_rfl) (fun _ _ _ h => h) rfl ht hS (wanted_plain rfl) (fun w hm => ev_nilCheck ht rfl rfl) ?_
  intro a ht
  refine wph_take (i := 6) rfl (by kernel_rfl) (by kernel_rfl) (by kernel_rfl) (fun _ _ _ h => h) rfl ht hS (wanted_plain rfl) (fun w hm => ev_fieldAddr ht rfl rfl fo_27_0) ?_
  intro a ht
  refine wph_take (i := 7) rfl (by kernel_rfl) (by kernel_rfl) (by kernel_rfl) (fun _ _ _ h => h) rfl ht hS (wanted_plain rfl) (fun w hm => ev_load ht rfl rfl sc_2 (hm.blk_cell 0 rfl rfl)) ?_
  intro a ht
  refine wph_take (i := 8) rfl (by kernel_rfl) (by kernel_rfl) (by kernel_rfl) (fun _ _ _ h => h) rfl ht hS (wanted_plain rfl) (fun w hm => ev_arith ht rfl rfl rfl rfl) ?_
  intro a ht
  refine wph_take (i := 9) rfl (by kernel_rfl) (by kernel_rfl) (by kernel_rfl) (fun _ _ _ h => h) rfl ht hS (wanted_plain rfl) (fun w hm => ev_arith ht rfl rfl rfl rfl) ?_
  intro a ht
  refine wph_take (i := 10) rfl (by kernel_rfl) (by kernel_rfl) (by kernel_rfl) (fun _ _ _ h => h) rfl ht hS (wanted_plain rfl) (fun w hm => ev_quo ht rfl rfl rfl (by decide)) ?_
  intro a ht
  refine wph_take (i := 11) rfl (by kernel_rfl) (by kernel_rfl) (by kernel_rfl) (fun _ _ _ h => h) rfl ht hS (wanted_plain rfl) (fun w hm => ev_assign ht rfl rfl) ?_
  intro a ht
  refine wph_done (by kernel_rfl) ?_
  refine then_normal ?_
  refine wp_ret ?_
  have hres := ht.res (P := Try.prog) (w := w) (rs := [.tmp 2]) (vs := [.int .i64 (w64 (Int.tdiv (w64 (x.p * (w64 (x.p - 1)))) 2))]) (.tmp rfl .nil)
  obtain rfl := Option.some.inj H
  exact leave ht rfl hres ⟨rfl, ((hm.pick [0] rfl (by decide)).pickφ [] rfl).post fun _ h => h⟩

/-! ### impl_Colouring_isColouring: function 46 ((*loop.example/g01362/impl.Colouring).isColouring) -/
def impl_Colouring_isColouring.l0 : Nat → Col → Int → Option (Bool)
  | 0, _, _ => none
  | q5 + 1, x, xs0_1 => if xs0_1 < 136 then ((getB 136 x.e xs0_1).bind fun t7 => if (w64 t7) ≥ x.k then (some false) else ((impl_Colouring_edges.f x).bind fun t9 => if xs0_1 ≥ t9 then (if t7 ≠ 0 then (some false) else (impl_Colouring_isColouring.l0 q5 x (w64 (xs0_1 + 1)))) else (impl_Colouring_isColouring.l0 q5 x (w64 (xs0_1 + 1))))) else (some true)
def impl_Colouring_isColouring.f (k : Nat) (x : Col) : Option (Bool) := (impl_in.f x.p 1 17).bind fun t1 => if t1 = true then ((impl_in.f x.k 1 4).bind fun t3 => if t3 = true then (impl_Colouring_isColouring.l0 k x 0) else (some false)) else (some false)
set_option maxRecDepth 100000 in
set_option maxHeartbeats 1000000 in
theorem impl_Colouring_isColouring.calls (k : Nat) (X : List Nat) (w0 : World) (b : Nat) (x : Col) (r : Bool)
    (hp : Pre X w0 [.blk b 27 (Col.cells x)] []) (H : impl_Colouring_isColouring.f k x = some r) :
    Calls Try.prog 46 [.pointer (some ⟨b, 0, none⟩)].toArray w0 (Ret fun v w => v = .bool r ∧ Post X (fps [.blk b 27 (Col.cells x)]) w0 [.blk b 27 (Col.cells x)] [] w) := by
  unfold impl_Colouring_isColouring.f at H
  refine enterM (n := 45) hp Try.func46 rfl rfl (Nat.le_of_ble_eq_true rfl) fun a w ht hm => ?_
  refine wp_seq ?_
  refine wpr ?_
  refine wpl rfl rfl ht (ev_assign ht rfl rfl) ?_
  intro a ht
  refine wpList_nil ?_
  refine then_normal ?_
  refine wp_seq ?_
  refine wp_seq ?_
  refine wpr ?_
  refine wpl rfl rfl ht (ev_move ht rfl rfl) ?_
  intro a ht
  refine wpl rfl rfl ht (ev_nilCheck ht rfl rfl) ?_
  intro a ht
  refine wpl rfl rfl ht (ev_fieldAddr ht rfl rfl fo_27_0) ?_
  intro a ht
  refine wpl rfl rfl ht (ev_load ht rfl rfl sc_2 (hm.blk_cell 0 rfl rfl)) ?_
  intro a ht
  obtain ⟨t1, et1, H⟩ := bind_get H
  have hcall := impl_in.calls _ _ x.p 1 17 _ ((fun (hq : Ms _ _ _ ([] ++ [.blk b 27 (Col.cells x)]) _ _) => hq.lend (φp := []) (allRO_nil)) (hm.pick (own' := [] ++ [.blk b 27 (Col.cells x)]) [0] rfl (by decide))) et1
  refine wpl_call _ rfl rfl ht rfl rfl rfl rfl can_65 hcall ?_
  clear hcall
  rintro _ w ⟨rfl, hpost⟩ a ht
  replace hm := (hm.pick (own' := [] ++ [.blk b 27 (Col.cells x)]) [0] rfl (by decide)).backL hpost
  clear hpost
  refine wpl rfl rfl ht (ev_not ht rfl rfl) ?_
  intro a ht
  refine wpl rfl rfl ht (ev_move ht rfl rfl) ?_
  intro a ht
  by_cases h2 : t1 = true
  · replace H := ite_yes h2 H
    refine wpl_yes rfl ht rfl ((not_t h2)) ?_
    refine wpl rfl rfl ht (ev_move ht rfl rfl) ?_
    intro a ht
    refine wpl_yes rfl ht rfl ((not_t h2)) ?_
    refine wpl rfl rfl ht (ev_nilCheck ht rfl rfl) ?_
    intro a ht
    refine wpl_yes rfl ht rfl ((not_t h2)) ?_
    refine wpl rfl rfl ht (ev_fieldAddr ht rfl rfl fo_27_1) ?_
    intro a ht
    refine wpl_yes rfl ht rfl ((not_t h2)) ?_
    refine wpl rfl rfl ht (ev_load ht rfl rfl sc_2 (hm.blk_cell 0 rfl rfl)) ?_
    intro a ht
    refine wpl_yes rfl ht rfl ((not_t h2)) ?_
    obtain ⟨t3, et3, H⟩ := bind_get H
    have hcall := impl_in.calls _ _ x.k 1 4 _ ((fun (hq : Ms _ _ _ ([] ++ [.blk b 27 (Col.cells x)]) _ _) => hq.lend (φp := []) (allRO_nil)) (hm.pick (own' := [] ++ [.blk b 27 (Col.cells x)]) [0] rfl (by decide))) et3
    refine wpl_call _ rfl rfl ht rfl rfl rfl rfl can_65 hcall ?_
    clear hcall
    rintro _ w ⟨rfl, hpost⟩ a ht
    replace hm := (hm.pick (own' := [] ++ [.blk b 27 (Col.cells x)]) [0] rfl (by decide)).backL hpost
    clear hpost
    refine wpl_yes rfl ht rfl ((not_t h2)) ?_
    refine wpl rfl rfl ht (ev_not ht rfl rfl) ?_
    intro a ht
    refine wpl rfl rfl ht (ev_pick_no ht rfl rfl (not_t h2) rfl) ?_
    intro a ht
    refine wpList_nil ?_
    refine then_normal ?_
    by_cases h4 : t3 = true
    · replace H := ite_yes h4 H
      refine wpc_no ht rfl (not_t h4) ?_
      refine wp_skip ?_
      refine then_normal ?_
      refine wp_seq ?_
      refine wp_seq ?_
      refine wpr ?_
      refine wpl rfl rfl ht (ev_move ht rfl rfl) ?_
      intro a ht
      refine wpl rfl rfl ht (ev_nilCheck ht rfl rfl) ?_
      intro a ht
      refine wpl rfl rfl ht (ev_fieldAddr ht rfl rfl fo_27_2) ?_
      intro a ht
      refine wpl rfl rfl ht (ev_load_agg ht rfl rfl (ag_22.trans (by first | rw [length_bytesC] | rfl)) (hm.col_edges 0 rfl)) ?_
      intro a ht
      refine wpl rfl rfl ht (ev_move ht rfl rfl) ?_
      intro a ht
      refine wpList_nil ?_
      refine then_normal ?_
      refine wp_block ?_
      refine wpLoop (fun q a w => ∃ (xs0_1 : Int), impl_Colouring_isColouring.l0 q x xs0_1 = some r ∧ q ≤ k ∧ Tm 45 [(0, .pointer (some ⟨b, 0, none⟩)), (2, .bool false), (22, .agg (bytesC 136 x.e).toArray), (23, .int .i64 xs0_1)] a ∧ Ms X (fps [.blk b 27 (Col.cells x)]) w0 [.blk b 27 (Col.cells x)] [] w) (k0 := k) ⟨0, H, Nat.le_refl _, ht.sub ⟨rfl, rfl, rfl, rfl, trivial⟩, (hm.pick [0] rfl (by decide)).pickφ [] rfl⟩ ?_
      clear H ht hm
      intro q5 a w hJ
      obtain ⟨xs0_1, H, hqq5, ht, hm⟩ := hJ
      cases q5 with
      | zero => cases H
      | succ q5 =>
      rw [impl_Colouring_isColouring.l0] at H
      refine wp_seq ?_
      refine wpr ?_
      refine wpl rfl rfl ht (ev_cmp ht rfl rfl rfl rfl) ?_
      intro a ht
      refine wpList_nil ?_
      refine then_normal ?_
      refine wp_seq ?_
      by_cases h6 : xs0_1 < 136
      · replace H := ite_yes h6 H
        refine wpc_yes ht rfl (decide_eq_true h6) ?_
        refine wp_skip ?_
        refine then_normal ?_
        refine wp_seq ?_
        refine wp_block ?_
        refine wp_seq ?_
        refine wpr ?_
        refine wpl rfl rfl ht (ev_move ht rfl rfl) ?_
        intro a ht
        obtain ⟨t7, et7, H⟩ := bind_get H
        refine wpl rfl rfl ht (ev_index_bytes ht rfl rfl rfl und_22 sc_5 sz1_5 et7) ?_
        intro a ht
        refine wpl rfl rfl ht (ev_assign ht rfl rfl) ?_
        intro a ht
        refine wpl rfl rfl ht (ev_assign ht rfl rfl) ?_
        intro a ht
        refine wpList_nil ?_
        refine then_normal ?_
        refine wp_seq ?_
        refine wpr ?_
        refine wpl rfl rfl ht (ev_move ht rfl rfl) ?_
        intro a ht
        refine wpl rfl rfl ht (ev_convert ht rfl rfl und_5 und_2) ?_
        intro a ht
        refine wpl rfl rfl ht (ev_move ht rfl rfl) ?_
        intro a ht
        refine wpl rfl rfl ht (ev_nilCheck ht rfl rfl) ?_
        intro a ht
        refine wpl rfl rfl ht (ev_fieldAddr ht rfl rfl fo_27_1) ?_
        intro a ht
        refine wpl rfl rfl ht (ev_load ht rfl rfl sc_2 (hm.blk_cell 0 rfl rfl)) ?_
        intro a ht
        refine wpl rfl rfl ht (ev_cmp ht rfl rfl rfl rfl) ?_
        intro a ht
        refine wpl rfl rfl ht (ev_move ht rfl rfl) ?_
        intro a ht
        by_cases h8 : (w64 t7) ≥ x.k
        · replace H := ite_yes h8 H
          refine wpl_no rfl rfl ht rfl (by rw [(decide_eq_true h8)]; decide) ?_
          intro a ht
          refine wpl_no rfl rfl ht rfl (by rw [(decide_eq_true h8)]; decide) ?_
          intro a ht
          refine wpl_no rfl rfl ht rfl (by rw [(decide_eq_true h8)]; decide) ?_
          intro a ht
          refine wpl_no rfl rfl ht rfl (by rw [(decide_eq_true h8)]; decide) ?_
          intro a ht
          refine wpl_no rfl rfl ht rfl (by rw [(decide_eq_true h8)]; decide) ?_
          intro a ht
          refine wpl_none rfl rfl ht rfl ?_
          intro a ht
          refine wpl_none rfl rfl ht rfl ?_
          intro a ht
          refine wpl_no rfl rfl ht rfl (by rw [(decide_eq_true h8)]; decide) ?_
          intro a ht
          refine wpl rfl rfl ht (ev_pick_yes ht rfl rfl (decide_eq_true h8) rfl) ?_
          intro a ht
          refine wpList_nil ?_
          refine then_normal ?_
          refine wpc_yes ht rfl rfl ?_
          refine wp_seq ?_
          refine wpr ?_
          refine wpl rfl rfl ht (ev_assign ht rfl rfl) ?_
          intro a ht
          refine wpList_nil ?_
          refine then_normal ?_
          refine wp_ret ?_
          refine blk_ret ?_
          refine then_ret ?_
          refine then_ret ?_
          refine blk_ret ?_
          refine then_ret ?_
          have hres := ht.res (P := Try.prog) (w := w) (rs := [.tmp 2]) (vs := [.bool false]) (.tmp rfl .nil)
          obtain rfl := Option.some.inj H
          exact leave ht rfl hres ⟨rfl, ((hm.pick [0] rfl (by decide)).pickφ [] rfl).post fun _ h => h⟩
        · replace H := ite_no h8 H
          refine wpl_yes rfl ht rfl ((decide_eq_false h8)) ?_
          refine wpl rfl rfl ht (ev_move ht rfl rfl) ?_
          intro a ht
          refine wpl_yes rfl ht rfl ((decide_eq_false h8)) ?_
          refine wpl rfl rfl ht (ev_move ht rfl rfl) ?_
          intro a ht
          refine wpl_yes rfl ht rfl ((decide_eq_false h8)) ?_
          obtain ⟨t9, et9, H⟩ := bind_get H
          have hcall := impl_Colouring_edges.calls _ _ b x _ ((fun (hq : Ms _ _ _ ([.blk b 27 (Col.cells x)] ++ []) _ _) => hq.lend (φp := []) (allRO_nil)) (hm.pick (own' := [.blk b 27 (Col.cells x)] ++ []) [0] rfl (by decide))) et9
          refine wpl_call _ rfl rfl ht rfl rfl rfl rfl can_66 hcall ?_
          clear hcall
          rintro _ w ⟨rfl, hpost⟩ a ht
          replace hm := (hm.pick (own' := [.blk b 27 (Col.cells x)] ++ []) [0] rfl (by decide)).backL hpost
          clear hpost
          refine wpl_yes rfl ht rfl ((decide_eq_false h8)) ?_
          refine wpl rfl rfl ht (ev_cmp ht rfl rfl rfl rfl) ?_
          intro a ht
          refine wpl_yes rfl ht rfl ((decide_eq_false h8)) ?_
          refine wpl rfl rfl ht (ev_move ht rfl rfl) ?_
          intro a ht
          by_cases h10 : xs0_1 ≥ t9
          · replace H := ite_yes h10 H
            refine wpl_yes rfl ht rfl ((decide_eq_true h10)) ?_
            refine wpl rfl rfl ht (ev_move ht rfl rfl) ?_
            intro a ht
            refine wpl_yes rfl ht rfl ((decide_eq_true h10)) ?_
            refine wpl rfl rfl ht (ev_cmp ht rfl rfl rfl rfl) ?_
            intro a ht
            refine wpl_yes rfl ht rfl ((decide_eq_false h8)) ?_
            refine wpl rfl rfl ht (ev_pick_yes ht rfl rfl (decide_eq_true h10) rfl) ?_
            intro a ht
            refine wpl rfl rfl ht (ev_pick_no ht rfl rfl (decide_eq_false h8) rfl) ?_
            intro a ht
            refine wpList_nil ?_
            refine then_normal ?_
            by_cases h11 : t7 ≠ 0
            · replace H := ite_yes h11 H
              refine wpc_yes ht rfl (decide_eq_true h11) ?_
              refine wp_seq ?_
              refine wpr ?_
              refine wpl rfl rfl ht (ev_assign ht rfl rfl) ?_
              intro a ht
              refine wpList_nil ?_
              refine then_normal ?_
              refine wp_ret ?_
              refine blk_ret ?_
              refine then_ret ?_
              refine then_ret ?_
              refine blk_ret ?_
              refine then_ret ?_
              have hres := ht.res (P := Try.prog) (w := w) (rs := [.tmp 2]) (vs := [.bool false]) (.tmp rfl .nil)
              obtain rfl := Option.some.inj H
              exact leave ht rfl hres ⟨rfl, ((hm.pick [0] rfl (by decide)).pickφ [] rfl).post fun _ h => h⟩
            · replace H := ite_no h11 H
              refine wpc_no ht rfl (decide_eq_false h11) ?_
              refine wp_skip ?_
              refine blk_normal ?_
              refine then_normal ?_
              refine wpr ?_
              refine wpl rfl rfl ht (ev_arith ht rfl rfl rfl rfl) ?_
              intro a ht
              refine wpl rfl rfl ht (ev_move ht rfl rfl) ?_
              intro a ht
              refine wpList_nil ?_
              exact then_normal ⟨q5, by omega, (w64 (xs0_1 + 1)), H, by omega, ht.sub ⟨rfl, rfl, rfl, rfl, trivial⟩, (hm.pick [0] rfl (by decide)).pickφ [] rfl⟩
          · replace H := ite_no h10 H
            refine wpl_no rfl rfl ht rfl (by rw [(decide_eq_false h10)]; decide) ?_
            intro a ht
            refine wpl_no rfl rfl ht rfl (by rw [(decide_eq_false h10)]; decide) ?_
            intro a ht
            refine wpl_yes rfl ht rfl ((decide_eq_false h8)) ?_
            refine wpl rfl rfl ht (ev_pick_no ht rfl rfl (decide_eq_false h10) rfl) ?_
            intro a ht
            refine wpl rfl rfl ht (ev_pick_no ht rfl rfl (decide_eq_false h8) rfl) ?_
            intro a ht
            refine wpList_nil ?_
            refine then_normal ?_
            refine wpc_no ht rfl rfl ?_
            refine wp_skip ?_
            refine blk_normal ?_
            refine then_normal ?_
            refine wpr ?_
            refine wpl rfl rfl ht (ev_arith ht rfl rfl rfl rfl) ?_
            intro a ht
            refine wpl rfl rfl ht (ev_move ht rfl rfl) ?_
            intro a ht
            refine wpList_nil ?_
            exact then_normal ⟨q5, by omega, (w64 (xs0_1 + 1)), H, by omega, ht.sub ⟨rfl, rfl, rfl, rfl, trivial⟩, (hm.pick [0] rfl (by decide)).pickφ [] rfl⟩
      · replace H := ite_no h6 H
        refine wpc_no ht rfl (decide_eq_false h6) ?_
        refine wp_exit ?_
        refine then_exit ?_
        refine then_exit ?_
        refine blk_hit ?_
        refine then_normal ?_
        refine wp_seq ?_
        refine wpr ?_
        refine wpl rfl rfl ht (ev_assign ht rfl rfl) ?_
        intro a ht
        refine wpList_nil ?_
        refine then_normal ?_
        refine wp_ret ?_
        have hres := ht.res (P := Try.prog) (w := w) (rs := [.tmp 2]) (vs := [.bool true]) (.tmp rfl .nil)
        obtain rfl := Option.some.inj H
        exact leave ht rfl hres ⟨rfl, ((hm.pick [0] rfl (by decide)).pickφ [] rfl).post fun _ h => h⟩
    · replace H := ite_no h4 H
      refine wpc_yes ht rfl (not_f (Bool.eq_false_iff.mpr h4)) ?_
      refine wp_seq ?_
      refine wpr ?_
      refine wpl rfl rfl ht (ev_assign ht rfl rfl) ?_
      intro a ht
      refine wpList_nil ?_
      refine then_normal ?_
      refine wp_ret ?_
      refine then_ret ?_
      have hres := ht.res (P := Try.prog) (w := w) (rs := [.tmp 2]) (vs := [.bool false]) (.tmp rfl .nil)
      obtain rfl := Option.some.inj H
      exact leave ht rfl hres ⟨rfl, ((hm.pick [0] rfl (by decide)).pickφ [] rfl).post fun _ h => h⟩
  · replace H := ite_no h2 H
    refine wpl_no rfl rfl ht rfl (by rw [(not_f (Bool.eq_false_iff.mpr h2))]; decide) ?_
    intro a ht
    refine wpl_no rfl rfl ht rfl (by rw [(not_f (Bool.eq_false_iff.mpr h2))]; decide) ?_
    intro a ht
    refine wpl_no rfl rfl ht rfl (by rw [(not_f (Bool.eq_false_iff.mpr h2))]; decide) ?_
    intro a ht
    refine wpl_no rfl rfl ht rfl (by rw [(not_f (Bool.eq_false_iff.mpr h2))]; decide) ?_
    intro a ht
    refine wpl_no rfl rfl ht rfl (by rw [(not_f (Bool.eq_false_iff.mpr h2))]; decide) ?_
    intro a ht
    refine wpl_no rfl rfl ht rfl (by rw [(not_f (Bool.eq_false_iff.mpr h2))]; decide) ?_
    intro a ht
    refine wpl rfl rfl ht (ev_pick_yes ht rfl rfl (not_f (Bool.eq_false_iff.mpr h2)) rfl) ?_
    intro a ht
    refine wpList_nil ?_
    refine then_normal ?_
    refine wpc_yes ht rfl rfl ?_
    refine wp_seq ?_
    refine wpr ?_
    refine wpl rfl rfl ht (ev_assign ht rfl rfl) ?_
    intro a ht
    refine wpList_nil ?_
    refine then_normal ?_
    refine wp_ret ?_
    refine then_ret ?_
    have hres := ht.res (P := Try.prog) (w := w) (rs := [.tmp 2]) (vs := [.bool false]) (.tmp rfl .nil)
    obtain rfl := Option.some.inj H
    exact leave ht rfl hres ⟨rfl, ((hm.pick [0] rfl (by decide)).pickφ [] rfl).post fun _ h => h⟩

/-! ### impl_always: function 24 (loop.example/g01362/impl.always) -/
def impl_always.f  : Option (Bool) := some true
set_option maxRecDepth 100000 in
set_option maxHeartbeats 1000000 in
theorem impl_always.calls (X : List Nat) (w0 : World)   (r : Bool)
    (hp : Pre X w0 [] []) (H : impl_always.f  = some r) :
    Calls Try.prog 24 [].toArray w0 (Ret fun v w => v = .bool r ∧ Post X (fps []) w0 [] [] w) := by
  unfold impl_always.f at H
  refine enterM (n := 1) hp Try.func24 rfl rfl (Nat.le_of_ble_eq_true rfl) fun a w ht hm => ?_
  refine wp_seq ?_
  refine wpr ?_
  refine wpl rfl rfl ht (ev_assign ht rfl rfl) ?_
  intro a ht
  refine wpList_nil ?_
  refine then_normal ?_
  refine wp_seq ?_
  refine wpr ?_
  refine wpl rfl rfl ht (ev_assign ht rfl rfl) ?_
  intro a ht
  refine wpList_nil ?_
  refine then_normal ?_
  refine wp_ret ?_
  have hres := ht.res (P := Try.prog) (w := w) (rs := [.tmp 0]) (vs := [.bool true]) (.tmp rfl .nil)
  obtain rfl := Option.some.inj H
  exact leave ht rfl hres ⟨rfl, ((hm.pick [] rfl (by decide)).pickφ [] rfl).post fun _ h => h⟩

/-! ### impl_Colouring_code__always: function 23 ((*loop.example/g01362/impl.Colouring).code) -/
def impl_Colouring_code__always.f (k : Nat) (x : Col) : Option (Int) := (impl_Colouring_isColouring.f k x).bind fun t1 => if t1 = true then ((impl_always.f ).bind fun t3 => if t3 = true then (some 0) else (some 2)) else (some 1)
set_option maxRecDepth 100000 in
set_option maxHeartbeats 1000000 in
theorem impl_Colouring_code__always.calls (k : Nat) (X : List Nat) (w0 : World) (b : Nat) (x : Col) (r : Int)
    (hp : Pre X w0 [.blk b 27 (Col.cells x)] []) (H : impl_Colouring_code__always.f k x = some r) :
    Calls Try.prog 23 [.pointer (some ⟨b, 0, none⟩), .func (.func 24) #[] #[]].toArray w0 (Ret fun v w => v = .int .i64 r ∧ Post X (fps [.blk b 27 (Col.cells x)]) w0 [.blk b 27 (Col.cells x)] [] w) := by
  unfold impl_Colouring_code__always.f at H
  refine enterM (n := 13) hp Try.func23 rfl rfl (Nat.le_of_ble_eq_true rfl) fun a w ht hm => ?_
  refine wp_seq ?_
  refine wpr ?_
  refine wpl rfl rfl ht (ev_assign ht rfl rfl) ?_
  intro a ht
  refine wpList_nil ?_
  refine then_normal ?_
  refine wp_seq ?_
  refine wp_block ?_
  refine wp_seq ?_
  refine wpr ?_
  refine wpl rfl rfl ht (ev_move ht rfl rfl) ?_
  intro a ht
  obtain ⟨t1, et1, H⟩ := bind_get H
  have hcall := impl_Colouring_isColouring.calls k _ _ b x _ ((fun (hq : Ms _ _ _ ([.blk b 27 (Col.cells x)] ++ []) _ _) => hq.lend (φp := []) (allRO_nil)) (hm.pick (own' := [.blk b 27 (Col.cells x)] ++ []) [0] rfl (by decide))) et1
  refine wpl_call _ rfl rfl ht rfl rfl rfl rfl can_46 hcall ?_
  clear hcall
  rintro _ w ⟨rfl, hpost⟩ a ht
  replace hm := (hm.pick (own' := [.blk b 27 (Col.cells x)] ++ []) [0] rfl (by decide)).backL hpost
  clear hpost
  refine wpl rfl rfl ht (ev_not ht rfl rfl) ?_
  intro a ht
  refine wpl rfl rfl ht (ev_assign ht rfl rfl) ?_
  intro a ht
  refine wpList_nil ?_
  refine then_normal ?_
  by_cases h2 : t1 = true
  · replace H := ite_yes h2 H
    refine wpc_no ht rfl (not_t h2) ?_
    refine wp_seq ?_
    refine wpr ?_
    refine wpl rfl rfl ht (ev_move ht rfl rfl) ?_
    intro a ht
    obtain ⟨t3, et3, H⟩ := bind_get H
    have hcall := impl_always.calls _ _ _ ((fun (hq : Ms _ _ _ ([] ++ [.blk b 27 (Col.cells x)]) _ _) => hq.lend (φp := []) (allRO_nil)) (hm.pick (own' := [] ++ [.blk b 27 (Col.cells x)]) [0] rfl (by decide))) et3
    refine wpl_call _ rfl rfl ht rfl rfl rfl rfl can_24 hcall ?_
    clear hcall
    rintro _ w ⟨rfl, hpost⟩ a ht
    replace hm := (hm.pick (own' := [] ++ [.blk b 27 (Col.cells x)]) [0] rfl (by decide)).backL hpost
    clear hpost
    refine wpl rfl rfl ht (ev_not ht rfl rfl) ?_
    intro a ht
    refine wpl rfl rfl ht (ev_assign ht rfl rfl) ?_
    intro a ht
    refine wpList_nil ?_
    refine then_normal ?_
    by_cases h4 : t3 = true
    · replace H := ite_yes h4 H
      refine wpc_no ht rfl (not_t h4) ?_
      refine wp_skip ?_
      refine blk_normal ?_
      refine then_normal ?_
      refine wp_seq ?_
      refine wpr ?_
      refine wpl rfl rfl ht (ev_assign ht rfl rfl) ?_
      intro a ht
      refine wpList_nil ?_
      refine then_normal ?_
      refine wp_ret ?_
      have hres := ht.res (P := Try.prog) (w := w) (rs := [.tmp 4]) (vs := [.int .i64 0]) (.tmp rfl .nil)
      obtain rfl := Option.some.inj H
      exact leave ht rfl hres ⟨rfl, ((hm.pick [0] rfl (by decide)).pickφ [] rfl).post fun _ h => h⟩
    · replace H := ite_no h4 H
      refine wpc_yes ht rfl (not_f (Bool.eq_false_iff.mpr h4)) ?_
      refine wp_seq ?_
      refine wpr ?_
      refine wpl rfl rfl ht (ev_assign ht rfl rfl) ?_
      intro a ht
      refine wpList_nil ?_
      refine then_normal ?_
      refine wp_ret ?_
      refine blk_ret ?_
      refine then_ret ?_
      have hres := ht.res (P := Try.prog) (w := w) (rs := [.tmp 4]) (vs := [.int .i64 2]) (.tmp rfl .nil)
      obtain rfl := Option.some.inj H
      exact leave ht rfl hres ⟨rfl, ((hm.pick [0] rfl (by decide)).pickφ [] rfl).post fun _ h => h⟩
  · replace H := ite_no h2 H
    refine wpc_yes ht rfl (not_f (Bool.eq_false_iff.mpr h2)) ?_
    refine wp_seq ?_
    refine wpr ?_
    refine wpl rfl rfl ht (ev_assign ht rfl rfl) ?_
    intro a ht
    refine wpList_nil ?_
    refine then_normal ?_
    refine wp_ret ?_
    refine blk_ret ?_
    refine then_ret ?_
    have hres := ht.res (P := Try.prog) (w := w) (rs := [.tmp 4]) (vs := [.int .i64 1]) (.tmp rfl .nil)
    obtain rfl := Option.some.inj H
    exact leave ht rfl hres ⟨rfl, ((hm.pick [0] rfl (by decide)).pickφ [] rfl).post fun _ h => h⟩

/-! ### impl_size_int64: function 53 (loop.example/g01362/impl.size[int64]) -/
def impl_size_int64.f (list : List Int) : Option (Int) := some (list.length : Int)
set_option maxRecDepth 100000 in
set_option maxHeartbeats 1000000 in
theorem impl_size_int64.calls (X : List Nat) (w0 : World) (A : Option Addr) (c : Nat) (m : Nat) (list : List Int) (r : Int)
    (hp : Pre X w0 [] [IntsAt A c m list]) (H : impl_size_int64.f list = some r) :
    Calls Try.prog 53 [.slice A m c].toArray w0 (Ret fun v w => v = .int .i64 r ∧ Post X (fps []) w0 [] [] w) := by
  unfold impl_size_int64.f at H
  refine enterM (n := 5) hp Try.func53 rfl rfl (Nat.le_of_ble_eq_true rfl) fun a w ht hm => ?_
  refine wp_seq ?_
  refine wpr ?_
  refine wpl rfl rfl ht (ev_assign ht rfl rfl) ?_
  intro a ht
  refine wpList_nil ?_
  refine then_normal ?_
  refine wp_seq ?_
  refine wpr ?_
  refine wpl rfl rfl ht (ev_move ht rfl rfl) ?_
  intro a ht
  refine wpl rfl rfl ht (ev_len_of ht rfl rfl und_43 (hm.fact (φ := IntsAt A c m list) 0 rfl)) ?_
  intro a ht
  refine wpl rfl rfl ht (ev_assign ht rfl rfl) ?_
  intro a ht
  refine wpList_nil ?_
  refine then_normal ?_
  refine wp_ret ?_
  have hres := ht.res (P := Try.prog) (w := w) (rs := [.tmp 2]) (vs := [.int .i64 (list.length : Int)]) (.tmp rfl .nil)
  obtain rfl := Option.some.inj H
  exact leave ht rfl hres ⟨rfl, ((hm.pick [] rfl (by decide)).pickφ [] rfl).post fun _ h => h⟩

/-! ### slices_Index_int64_int64: function 70 (slices.Index[[]int64,int64]) -/
def slices_Index_int64_int64.l0 : Nat → List Int → Int → Int → Option (Int)
  | 0, _, _, _ => none
  | q1 + 1, s, v, xs0_1 => if xs0_1 < (s.length : Int) then ((getI s xs0_1).bind fun t3 => if v = t3 then (some xs0_1) else (slices_Index_int64_int64.l0 q1 s v (w64 (xs0_1 + 1)))) else (some (-1))
def slices_Index_int64_int64.f (k : Nat) (s : List Int) (v : Int) : Option (Int) := slices_Index_int64_int64.l0 k s v 0
set_option maxRecDepth 100000 in
set_option maxHeartbeats 1000000 in
theorem slices_Index_int64_int64.calls (k : Nat) (X : List Nat) (w0 : World) (A : Option Addr) (c : Nat) (m : Nat) (s : List Int) (v : Int) (r : Int)
    (hp : Pre X w0 [] [IntsAt A c m s]) (H : slices_Index_int64_int64.f k s v = some r) :
    Calls Try.prog 70 [.slice A m c, .int .i64 v].toArray w0 (Ret fun v w => v = .int .i64 r ∧ Post X (fps []) w0 [] [] w) := by
  unfold slices_Index_int64_int64.f at H
  refine enterM (n := 19) hp Try.func70 rfl rfl (Nat.le_of_ble_eq_true rfl) fun a w ht hm => ?_
  refine wp_seq ?_
  refine wpr ?_
  refine wpl rfl rfl ht (ev_assign ht rfl rfl) ?_
  intro a ht
  refine wpList_nil ?_
  refine then_normal ?_
  refine wp_seq ?_
  refine wp_seq ?_
  refine wpr ?_
  refine wpl rfl rfl ht (ev_move ht rfl rfl) ?_
  intro a ht
  refine wpl rfl rfl ht (ev_len_of ht rfl rfl und_43 (hm.fact (φ := IntsAt A c m s) 0 rfl)) ?_
  intro a ht
  refine wpl rfl rfl ht (ev_move ht rfl rfl) ?_
  intro a ht
  refine wpList_nil ?_
  refine then_normal ?_
  refine wp_block ?_
  refine wpLoop (fun q a w => ∃ (xs0_1 : Int), slices_Index_int64_int64.l0 q s v xs0_1 = some r ∧ q ≤ k ∧ Tm 19 [(0, .slice A m c), (1, .int .i64 v), (4, .int .i64 0), (7, .int .i64 (s.length : Int)), (8, .int .i64 xs0_1)] a ∧ Ms X (fps []) w0 [] [IntsAt A c m s] w) (k0 := k) ⟨0, H, Nat.le_refl _, ht.sub ⟨rfl, rfl, rfl, rfl, rfl, trivial⟩, (hm.pick [] rfl (by decide)).pickφ [0] rfl⟩ ?_
  clear H ht hm
  intro q1 a w hJ
  obtain ⟨xs0_1, H, hqq1, ht, hm⟩ := hJ
  cases q1 with
  | zero => cases H
  | succ q1 =>
  rw [slices_Index_int64_int64.l0] at H
  refine wp_seq ?_
  refine wpr ?_
  refine wpl rfl rfl ht (ev_cmp ht rfl rfl rfl rfl) ?_
  intro a ht
  refine wpList_nil ?_
  refine then_normal ?_
  refine wp_seq ?_
  by_cases h2 : xs0_1 < (s.length : Int)
  · replace H := ite_yes h2 H
    refine wpc_yes ht rfl (decide_eq_true h2) ?_
    refine wp_skip ?_
    refine then_normal ?_
    refine wp_seq ?_
    refine wp_block ?_
    refine wp_seq ?_
    refine wpr ?_
    refine wpl rfl rfl ht (ev_move ht rfl rfl) ?_
    intro a ht
    refine wpl rfl rfl ht (ev_assign ht rfl rfl) ?_
    intro a ht
    refine wpList_nil ?_
    refine then_normal ?_
    refine wp_seq ?_
    refine wpr ?_
    refine wpl rfl rfl ht (ev_move ht rfl rfl) ?_
    intro a ht
    refine wpl rfl rfl ht (ev_move ht rfl rfl) ?_
    intro a ht
    refine wpl rfl rfl ht (ev_move ht rfl rfl) ?_
    intro a ht
    obtain ⟨t3, et3, H⟩ := bind_get H
    refine wpl rfl rfl ht (ev_index_ints ht rfl rfl rfl so_43 (hm.fact (φ := IntsAt A c m s) 0 rfl) et3) ?_
    intro a ht
    refine wpl rfl rfl ht (ev_load ht rfl rfl sc_2 (RowAt.cell (hm.fact (φ := IntsAt A c m s) 0 rfl) (ints_get et3) rfl)) ?_
    intro a ht
    refine wpl rfl rfl ht (ev_cmp ht rfl rfl rfl rfl) ?_
    intro a ht
    refine wpList_nil ?_
    refine then_normal ?_
    by_cases h4 : v = t3
    · replace H := ite_yes h4 H
      refine wpc_yes ht rfl (decide_eq_true h4) ?_
      refine wp_seq ?_
      refine wpr ?_
      refine wpl rfl rfl ht (ev_move ht rfl rfl) ?_
      intro a ht
      refine wpl rfl rfl ht (ev_assign ht rfl rfl) ?_
      intro a ht
      refine wpList_nil ?_
      refine then_normal ?_
      refine wp_ret ?_
      refine blk_ret ?_
      refine then_ret ?_
      refine then_ret ?_
      refine blk_ret ?_
      refine then_ret ?_
      have hres := ht.res (P := Try.prog) (w := w) (rs := [.tmp 4]) (vs := [.int .i64 xs0_1]) (.tmp rfl .nil)
      obtain rfl := Option.some.inj H
      exact leave ht rfl hres ⟨rfl, ((hm.pick [] rfl (by decide)).pickφ [] rfl).post fun _ h => h⟩
    · replace H := ite_no h4 H
      refine wpc_no ht rfl (decide_eq_false h4) ?_
      refine wp_skip ?_
      refine blk_normal ?_
      refine then_normal ?_
      refine wpr ?_
      refine wpl rfl rfl ht (ev_arith ht rfl rfl rfl rfl) ?_
      intro a ht
      refine wpl rfl rfl ht (ev_move ht rfl rfl) ?_
      intro a ht
      refine wpList_nil ?_
      exact then_normal ⟨q1, by omega, (w64 (xs0_1 + 1)), H, by omega, ht.sub ⟨rfl, rfl, rfl, rfl, rfl, trivial⟩, (hm.pick [] rfl (by decide)).pickφ [0] rfl⟩
  · replace H := ite_no h2 H
    refine wpc_no ht rfl (decide_eq_false h2) ?_
    refine wp_exit ?_
    refine then_exit ?_
    refine then_exit ?_
    refine blk_hit ?_
    refine then_normal ?_
    refine wp_seq ?_
    refine wpr ?_
    refine wpl rfl rfl ht (ev_assign ht rfl rfl) ?_
    intro a ht
    refine wpList_nil ?_
    refine then_normal ?_
    refine wp_ret ?_
    have hres := ht.res (P := Try.prog) (w := w) (rs := [.tmp 4]) (vs := [.int .i64 (-1)]) (.tmp rfl .nil)
    obtain rfl := Option.some.inj H
    exact leave ht rfl hres ⟨rfl, ((hm.pick [] rfl (by decide)).pickφ [] rfl).post fun _ h => h⟩

/-! ### slices_Contains_int64_int64: function 54 (slices.Contains[[]int64,int64]) -/
def slices_Contains_int64_int64.f (k : Nat) (s : List Int) (v : Int) : Option (Bool) := (slices_Index_int64_int64.f k s v).bind fun t1 => some (decide (t1 ≥ 0))
set_option maxRecDepth 100000 in
set_option maxHeartbeats 1000000 in
theorem slices_Contains_int64_int64.calls (k : Nat) (X : List Nat) (w0 : World) (A : Option Addr) (c : Nat) (m : Nat) (s : List Int) (v : Int) (r : Bool)
    (hp : Pre X w0 [] [IntsAt A c m s]) (H : slices_Contains_int64_int64.f k s v = some r) :
    Calls Try.prog 54 [.slice A m c, .int .i64 v].toArray w0 (Ret fun v w => v = .bool r ∧ Post X (fps []) w0 [] [] w) := by
  unfold slices_Contains_int64_int64.f at H
  refine enterM (n := 9) hp Try.func54 rfl rfl (Nat.le_of_ble_eq_true rfl) fun a w ht hm => ?_
  refine wp_seq ?_
  refine wpr ?_
  refine wpl rfl rfl ht (ev_assign ht rfl rfl) ?_
  intro a ht
  refine wpList_nil ?_
  refine then_normal ?_
  refine wp_seq ?_
  refine wpr ?_
  refine wpl rfl rfl ht (ev_move ht rfl rfl) ?_
  intro a ht
  refine wpl rfl rfl ht (ev_move ht rfl rfl) ?_
  intro a ht
  obtain ⟨t1, et1, H⟩ := bind_get H
  have hcall := slices_Index_int64_int64.calls k _ _ A c m s v _ ((fun (hq : Ms _ _ _ ([] ++ []) _ _) => hq.lend (φp := [IntsAt A c m s]) (allRO_cons (hq.lendFact 0 rfl) (allRO_nil))) (hm.pick (own' := [] ++ []) [] rfl (by decide))) et1
  refine wpl_call _ rfl rfl ht rfl rfl rfl rfl can_70 hcall ?_
  clear hcall
  rintro _ w ⟨rfl, hpost⟩ a ht
  replace hm := (hm.pick (own' := [] ++ []) [] rfl (by decide)).backL hpost
  clear hpost
  refine wpl rfl rfl ht (ev_cmp ht rfl rfl rfl rfl) ?_
  intro a ht
  refine wpl rfl rfl ht (ev_assign ht rfl rfl) ?_
  intro a ht
  refine wpList_nil ?_
  refine then_normal ?_
  refine wp_ret ?_
  have hres := ht.res (P := Try.prog) (w := w) (rs := [.tmp 4]) (vs := [.bool (decide (t1 ≥ 0))]) (.tmp rfl .nil)
  obtain rfl := Option.some.inj H
  exact leave ht rfl hres ⟨rfl, ((hm.pick [] rfl (by decide)).pickφ [] rfl).post fun _ h => h⟩

/-! ### slices_Clone_int64_int64: function 55 (slices.Clone[[]int64,int64]) -/
def slices_Clone_int64_int64.f (s : List Int) : Option (List Int) := (concat ([] : List Int) s).bind fun l6 => some l6
set_option maxRecDepth 100000 in
set_option maxHeartbeats 1000000 in
theorem slices_Clone_int64_int64.calls (X : List Nat) (w0 : World) (A : Option Addr) (c : Nat) (m : Nat) (s : List Int) (r : List Int)
    (hp : Pre X w0 [] [IntsAt A c m s]) (H : slices_Clone_int64_int64.f s = some r) :
    Calls Try.prog 55 [.slice A m c].toArray w0 (Ret fun v w => ∃ (A_0 : Option Addr) (c_0 : Nat) (n_0 : Nat), v = .slice A_0 n_0 c_0 ∧ Post X (fps []) w0 [.vec A_0 c_0 2 1 n_0 (ints r)] [] w) := by
  unfold slices_Clone_int64_int64.f at H
  refine enterM (n := 8) hp Try.func55 rfl rfl (Nat.le_of_ble_eq_true rfl) fun a w ht hm => ?_
  refine wp_seq ?_
  refine wpr ?_
  refine wpl rfl rfl ht (ev_assign ht rfl rfl) ?_
  intro a ht
  refine wpList_nil ?_
  refine then_normal ?_
  refine wp_seq ?_
  refine wp_seq ?_
  refine wpr ?_
  refine wpl rfl rfl ht (ev_move ht rfl rfl) ?_
  intro a ht
  cases A with
  | none =>
    have hnil : s = [] := IntsAt.none (hm.fact (φ := IntsAt none c m s) 0 rfl)
    refine wpl rfl rfl ht (ev_eq_nil_none ht rfl rfl rfl und_43) ?_
    intro a ht
    refine wpList_nil ?_
    refine then_normal ?_
    refine wpc_yes ht rfl rfl ?_
    refine wp_seq ?_
    refine wpr ?_
    refine wpl rfl rfl ht (ev_assign ht rfl rfl) ?_
    intro a ht
    refine wpList_nil ?_
    refine then_normal ?_
    refine wp_ret ?_
    refine then_ret ?_
    have hres := ht.res (P := Try.prog) (w := w) (rs := [.tmp 2]) (vs := [.slice none 0 0]) (.tmp rfl .nil)
    replace hm : Ms _ _ _ (.vec none 0 2 1 0 (ints ([] : List Int)) :: _) _ w := hm.nilVec none 2 1
    obtain rfl : r = [] := by rw [hnil] at H; exact clone_nil H
    exact leave ht rfl hres ⟨none, 0, 0, rfl, ((hm.pick [0] rfl (by decide)).pickφ [] rfl).post fun _ h => h⟩
  | some A =>
    refine wpl rfl rfl ht (ev_eq_nil_some ht rfl rfl rfl und_43) ?_
    intro a ht
    refine wpList_nil ?_
    refine then_normal ?_
    refine wpc_no ht rfl rfl ?_
    refine wp_skip ?_
    refine then_normal ?_
    refine wp_seq ?_
    refine wpr ?_
    refine wpl_build_ints (l := ([] : List Int)) rfl rfl ht hm rfl und_43 zo_2 sz1_2 (by decide) rfl rfl rfl ?_
    intro A2 a ht w hm
    refine wpl rfl rfl ht (ev_move ht rfl rfl) ?_
    intro a ht
    obtain ⟨l6, el6, H⟩ := bind_get H
    refine wpl_concat (r := l6) 0 rfl rfl ht hm rfl ap_43 rfl rfl rfl (hm.fact (φ := IntsAt (some A) c m s) 0 rfl) el6 ?_
    intro A3 c4 m5 a ht w hm
    refine wpl rfl rfl ht (ev_assign ht rfl rfl) ?_
    intro a ht
    refine wpList_nil ?_
    refine then_normal ?_
    refine wp_ret ?_
    have hres := ht.res (P := Try.prog) (w := w) (rs := [.tmp 2]) (vs := [.slice A3 m5 c4]) (.tmp rfl .nil)
    obtain rfl := Option.some.inj H
    exact leave ht rfl hres ⟨A3, c4, m5, rfl, ((hm.pick [0] rfl (by decide)).pickφ [] rfl).post fun _ h => h⟩

end Go.Proofs.Ytbgniopmmankdaa.G
