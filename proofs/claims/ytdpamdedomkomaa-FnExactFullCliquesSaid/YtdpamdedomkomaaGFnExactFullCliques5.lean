/- What each Go function computes, as a Lean function, and the proof that it does: written by a program of this session (wip/gen), part 5. -/
import Derived.Test.YtdpamdedomkomaaGFnExactFullCliques4
namespace Go.Proofs.Ytdpamdedomkomaa.G
open Go Go.RowKit Go.Proofs.Ytdpamdedomkomaa.K
set_option linter.unusedVariables false
set_option linter.unusedSimpArgs false

/-! ### impl_in: function 61 (loop.example/g01362/impl.in) -/
def impl_in.f (n_ : Int) (low : Int) (high : Int) : Option (Bool) := if n_ ≥ low then (some (decide (n_ ≤ high))) else (some false)
set_option maxRecDepth 100000 in
set_option maxHeartbeats 1000000 in
theorem impl_in.calls (X : List Nat) (w0 : World)  (n_ : Int) (low : Int) (high : Int) (r : Bool)
    (hp : Pre X w0 [] []) (H : impl_in.f n_ low high = some r) :
    Calls Try.prog 61 [.int .i64 n_, .int .i64 low, .int .i64 high].toArray w0 (Ret fun v w => v = .bool r ∧ Post X (fps []) w0 [] [] w) := by
  unfold impl_in.f at H
  refine enterM (n := 15) hp Try.func61 rfl rfl (Nat.le_of_ble_eq_true rfl) fun a w ht hm => ?_
  refine wp_seq ?_
  refine wpr ?_
  refine wpl rfl rfl ht (ev_assign ht rfl rfl) ?_
  intro a ht
  refine wpList_nil ?_
  refine then_normal ?_
  refine wp_seq ?_
  refine wpr ?_
  refine wpl rfl rfl ht (ev_move ht rfl rfl) ?_
  intro a ht
  refine wpl rfl rfl ht (ev_move ht rfl rfl) ?_
  intro a ht
  refine wpl rfl rfl ht (ev_cmp ht rfl rfl rfl rfl) ?_
  intro a ht
  refine wpl rfl rfl ht (ev_move ht rfl rfl) ?_
  intro a ht
  by_cases h1 : n_ ≥ low
  · replace H := ite_yes h1 H
    refine wpl_yes rfl ht rfl ((decide_eq_true h1)) ?_
    refine wpl rfl rfl ht (ev_move ht rfl rfl) ?_
    intro a ht
    refine wpl_yes rfl ht rfl ((decide_eq_true h1)) ?_
    refine wpl rfl rfl ht (ev_move ht rfl rfl) ?_
    intro a ht
    refine wpl_yes rfl ht rfl ((decide_eq_true h1)) ?_
    refine wpl rfl rfl ht (ev_cmp ht rfl rfl rfl rfl) ?_
    intro a ht
    refine wpl rfl rfl ht (ev_pick_yes ht rfl rfl (decide_eq_true h1) rfl) ?_
    intro a ht
    refine wpl rfl rfl ht (ev_assign ht rfl rfl) ?_
    intro a ht
    refine wpList_nil ?_
    refine then_normal ?_
    refine wp_ret ?_
    have hres := ht.res (P := Try.prog) (w := w) (rs := [.tmp 6]) (vs := [.bool (decide (n_ ≤ high))]) (.tmp rfl .nil)
    obtain rfl := Option.some.inj H
    exact leave ht rfl hres ⟨rfl, ((hm.pick [] rfl (by decide)).pickφ [] rfl).post fun _ h => h⟩
  · replace H := ite_no h1 H
    refine wpl_no rfl rfl ht rfl (by rw [(decide_eq_false h1)]; decide) ?_
    intro a ht
    refine wpl_no rfl rfl ht rfl (by rw [(decide_eq_false h1)]; decide) ?_
    intro a ht
    refine wpl_no rfl rfl ht rfl (by rw [(decide_eq_false h1)]; decide) ?_
    intro a ht
    refine wpl rfl rfl ht (ev_pick_no ht rfl rfl (decide_eq_false h1) rfl) ?_
    intro a ht
    refine wpl rfl rfl ht (ev_assign ht rfl rfl) ?_
    intro a ht
    refine wpList_nil ?_
    refine then_normal ?_
    refine wp_ret ?_
    have hres := ht.res (P := Try.prog) (w := w) (rs := [.tmp 6]) (vs := [.bool false]) (.tmp rfl .nil)
    obtain rfl := Option.some.inj H
    exact leave ht rfl hres ⟨rfl, ((hm.pick [] rfl (by decide)).pickφ [] rfl).post fun _ h => h⟩

/-! ### impl_Colouring_edges: function 122 ((*loop.example/g01362/impl.Colouring).edges) -/
def impl_Colouring_edges.f (x : Col) : Option (Int) := some (w64 (Int.tdiv (w64 (x.p * (w64 (x.p - 1)))) 2))
set_option maxRecDepth 100000 in
set_option maxHeartbeats 1000000 in
theorem impl_Colouring_edges.calls (X : List Nat) (w0 : World) (b : Nat) (x : Col) (r : Int)
    (hp : Pre X w0 [.blk b 28 (Col.cells x)] []) (H : impl_Colouring_edges.f x = some r) :
    Calls Try.prog 122 [.pointer (some ⟨b, 0, none⟩)].toArray w0 (Ret fun v w => v = .int .i64 r ∧ Post X (fps [.blk b 28 (Col.cells x)]) w0 [.blk b 28 (Col.cells x)] [] w) := by
  unfold impl_Colouring_edges.f at H
  refine enterM (n := 14) hp Try.func122 rfl rfl (Nat.le_of_ble_eq_true rfl) fun a w ht hm => ?_
  refine wp_seq ?_
  refine wpr ?_
  refine wpl rfl rfl ht (ev_assign ht rfl rfl) ?_
  intro a ht
  refine wpList_nil ?_
  refine then_normal ?_
  refine wp_seq ?_
  refine wph_begin (fun w => Ms X (fps [.blk b 28 (Col.cells x)]) w0 [.blk b 28 (Col.cells x)] [] w) mixed ?_
  replace hm := hm.drew
  have hS : Ms X (fps [.blk b 28 (Col.cells x)]) w0 [.blk b 28 (Col.cells x)] [] w.drew := (hm.pick [0] rfl (by decide)).pickφ [] rfl
  generalize w.drew = w at hm hS ⊢
  refine wph_take (i := 0) rfl (by kernel_rfl) (by kernel_rfl) (by kernel_rfl) (fun _ _ _ h => h) rfl ht hS (wanted_plain rfl) (fun w hm => ev_move ht rfl rfl) ?_
  intro a ht
  refine wph_take (i := 1) rfl (by kernel_rfl) (by kernel_rfl) (by kernel_rfl) (fun _ _ _ h => h) rfl ht hS (wanted_plain rfl) (fun w hm => ev_nilCheck ht rfl rfl) ?_
  intro a ht
  refine wph_take (i := 2) rfl (by kernel_rfl) (by kernel_rfl) (by kernel_rfl) (fun _ _ _ h => h) rfl ht hS (wanted_plain rfl) (fun w hm => ev_fieldAddr ht rfl rfl fo_28_0) ?_
  intro a ht
  refine wph_take (i := 3) rfl (by kernel_rfl) (by kernel_rfl) (by kernel_rfl) (fun _ _ _ h => h) rfl ht hS (wanted_plain rfl) (fun w hm => ev_load ht rfl rfl sc_2 (hm.blk_cell 0 rfl rfl)) ?_
  intro a ht
  refine wph_take (i := 4) rfl (by kernel_rfl) (by kernel_rfl) (by kernel_rfl) (fun _ _ _ h => h) rfl ht hS (wanted_plain rfl) (fun w hm => ev_move ht rfl rfl) ?_
  intro a ht
  refine wph_take (i := 5) rfl (by kernel_rfl) (by kernel_rfl) (by kernel_rfl) (fun _ _ _ h => h) rfl ht hS (wanted_plain rfl) (fun w hm => ev_nilCheck ht rfl rfl) ?_
  intro a ht
  refine wph_take (i := 6) rfl (by kernel_rfl) (by kernel_rfl) (by kernel_rfl) (fun _ _ _ h => h) rfl ht hS (wanted_plain rfl) (fun w hm => ev_fieldAddr ht rfl rfl fo_28_0) ?_
  intro a ht
  refine wph_take (i := 7) rfl (by kernel_rfl) (by kernel_rfl) (by kernel_rfl) (fun _ _ _ h => h) rfl ht hS (wanted_plain rfl) (fun w hm => ev_load ht rfl rfl sc_2 (hm.blk_cell 0 rfl rfl)) ?_
  intro a ht
  refine wph_take (i := 8) rfl (by kernel_rfl) (by kernel_rfl) (by kernel_rfl) (fun _ _ _ h => h) rfl ht hS (wanted_plain rfl) (fun w hm => ev_arith ht rfl rfl rfl rfl) ?_
  intro a ht
  refine wph_take (i := 9) rfl (by kernel_rfl) (by kernel_rfl) (by kernel_rfl) (fun _ _ _ h => h) rfl ht hS (wanted_plain rfl) (fun w hm => ev_arith ht rfl rfl rfl rfl) ?_
  intro a ht
  refine wph_take (i := 10) rfl (by kernel_rfl) (by kernel_rfl) (by kernel_rfl) (fun _ _ _ h => h) rfl ht hS (wanted_plain rfl) (fun w hm => ev_quo ht rfl rfl rfl (by decide)) ?_
  intro a ht
  refine wph_take (i := 11) rfl (by kernel_rfl) (by kernel_rfl) (by kernel_rfl) (fun _ _ _ h => h) rfl ht hS (wanted_plain rfl) (fun w hm => ev_assign ht rfl rfl) ?_
  intro a ht
  refine wph_done (by kernel_rfl) ?_
  refine then_normal ?_
  refine wp_ret ?_
  have hres := ht.res (P := Try.prog) (w := w) (rs := [.tmp 2]) (vs := [.int .i64 (w64 (Int.tdiv (w64 (x.p * (w64 (x.p - 1)))) 2))]) (.tmp rfl .nil)
  obtain rfl := Option.some.inj H
  exact leave ht rfl hres ⟨rfl, ((hm.pick [0] rfl (by decide)).pickφ [] rfl).post fun _ h => h⟩

/-! ### impl_Colouring_isColouring: function 101 ((*loop.example/g01362/impl.Colouring).isColouring) -/
def impl_Colouring_isColouring.l0 : Nat → Col → Int → Option (Bool)
  | 0, _, _ => none
  | q5 + 1, x, xs0_1 => if xs0_1 < 136 then ((getB 136 x.e xs0_1).bind fun t7 => if (w64 t7) ≥ x.k then (some false) else ((impl_Colouring_edges.f x).bind fun t9 => if xs0_1 ≥ t9 then (if t7 ≠ 0 then (some false) else (impl_Colouring_isColouring.l0 q5 x (w64 (xs0_1 + 1)))) else (impl_Colouring_isColouring.l0 q5 x (w64 (xs0_1 + 1))))) else (some true)
def impl_Colouring_isColouring.f (k : Nat) (x : Col) : Option (Bool) := (impl_in.f x.p 1 17).bind fun t1 => if t1 = true then ((impl_in.f x.k 1 4).bind fun t3 => if t3 = true then (impl_Colouring_isColouring.l0 k x 0) else (some false)) else (some false)
set_option maxRecDepth 100000 in
set_option maxHeartbeats 1000000 in
theorem impl_Colouring_isColouring.calls (k : Nat) (X : List Nat) (w0 : World) (b : Nat) (x : Col) (r : Bool)
    (hp : Pre X w0 [.blk b 28 (Col.cells x)] []) (H : impl_Colouring_isColouring.f k x = some r) :
    Calls Try.prog 101 [.pointer (some ⟨b, 0, none⟩)].toArray w0 (Ret fun v w => v = .bool r ∧ Post X (fps [.blk b 28 (Col.cells x)]) w0 [.blk b 28 (Col.cells x)] [] w) := by
  unfold impl_Colouring_isColouring.f at H
  refine enterM (n := 45) hp Try.func101 rfl rfl (Nat.le_of_ble_eq_true rfl) fun a w ht hm => ?_
  refine wp_seq ?_
  refine wpr ?_
  refine wpl rfl rfl ht (ev_assign ht rfl rfl) ?_
  intro a ht
  refine wpList_nil ?_
  refine then_normal ?_
  refine wp_seq ?_
  refine wp_seq ?_
  refine wpr ?_
  refine wpl rfl rfl ht (ev_move ht rfl rfl) ?_
  intro a ht
  refine wpl rfl rfl ht (ev_nilCheck ht rfl rfl) ?_
  intro a ht
  refine wpl rfl rfl ht (ev_fieldAddr ht rfl rfl fo_28_0) ?_
  intro a ht
  refine wpl rfl rfl ht (ev_load ht rfl rfl sc_2 (hm.blk_cell 0 rfl rfl)) ?_
  intro a ht
  obtain ⟨t1, et1, H⟩ := bind_get H
  have hcall := impl_in.calls _ _ x.p 1 17 _ ((fun (hq : Ms _ _ _ ([] ++ [.blk b 28 (Col.cells x)]) _ _) => hq.lend (φp := []) (allRO_nil)) (hm.pick (own' := [] ++ [.blk b 28 (Col.cells x)]) [0] rfl (by decide))) et1
  refine wpl_call _ rfl rfl ht rfl rfl rfl rfl can_61 hcall ?_
  clear hcall
  rintro _ w ⟨rfl, hpost⟩ a ht
  replace hm := (hm.pick (own' := [] ++ [.blk b 28 (Col.cells x)]) [0] rfl (by decide)).backL hpost
  clear hpost
  refine wpl rfl rfl ht (ev_not ht rfl rfl) ?_
  intro a ht
  refine wpl rfl rfl ht (ev_move ht rfl rfl) ?_
  intro a ht
  by_cases h2 : t1 = true
  · replace H := ite_yes h2 H
    refine wpl_yes rfl ht rfl ((not_t h2)) ?_
    refine wpl rfl rfl ht (ev_move ht rfl rfl) ?_
    intro a ht
    refine wpl_yes rfl ht rfl ((not_t h2)) ?_
    refine wpl rfl rfl ht (ev_nilCheck ht rfl rfl) ?_
    intro a ht
    refine wpl_yes rfl ht rfl ((not_t h2)) ?_
    refine wpl rfl rfl ht (ev_fieldAddr ht rfl rfl fo_28_1) ?_
    intro a ht
    refine wpl_yes rfl ht rfl ((not_t h2)) ?_
    refine wpl rfl rfl ht (ev_load ht rfl rfl sc_2 (hm.blk_cell 0 rfl rfl)) ?_
    intro a ht
    refine wpl_yes rfl ht rfl ((not_t h2)) ?_
    obtain ⟨t3, et3, H⟩ := bind_get H
    have hcall := impl_in.calls _ _ x.k 1 4 _ ((fun (hq : Ms _ _ _ ([] ++ [.blk b 28 (Col.cells x)]) _ _) => hq.lend (φp := []) (allRO_nil)) (hm.pick (own' := [] ++ [.blk b 28 (Col.cells x)]) [0] rfl (by decide))) et3
    refine wpl_call _ rfl rfl ht rfl rfl rfl rfl can_61 hcall ?_
    clear hcall
    rintro _ w ⟨rfl, hpost⟩ a ht
    replace hm := (hm.pick (own' := [] ++ [.blk b 28 (Col.cells x)]) [0] rfl (by decide)).backL hpost
    clear hpost
    refine wpl_yes rfl ht rfl ((not_t h2)) ?_
    refine wpl rfl rfl ht (ev_not ht rfl rfl) ?_
    intro a ht
    refine wpl rfl rfl ht (ev_pick_no ht rfl rfl (not_t h2) rfl) ?_
    intro a ht
    refine wpList_nil ?_
    refine then_normal ?_
    by_cases h4 : t3 = true
    · replace H := ite_yes h4 H
      refine wpc_no ht rfl (not_t h4) ?_
      refine wp_skip ?_
      refine then_normal ?_
      refine wp_seq ?_
      refine wp_seq ?_
      refine wpr ?_
      refine wpl rfl rfl ht (ev_move ht rfl rfl) ?_
      intro a ht
      refine wpl rfl rfl ht (ev_nilCheck ht rfl rfl) ?_
      intro a ht
      refine wpl rfl rfl ht (ev_fieldAddr ht rfl rfl fo_28_2) ?_
      intro a ht
      refine wpl rfl rfl ht (ev_load_agg ht rfl rfl (ag_22.trans (by first | rw [length_bytesC] | rfl)) (hm.col_edges 0 rfl)) ?_
      intro a ht
      refine wpl rfl rfl ht (ev_move ht rfl rfl) ?_
      intro a ht
      refine wpList_nil ?_
      refine then_normal ?_
      refine wp_block ?_
      refine wpLoop (fun q a w => ∃ (xs0_1 : Int), impl_Colouring_isColouring.l0 q x xs0_1 = some r ∧ q ≤ k ∧ Tm 45 [(0, .pointer (some ⟨b, 0, none⟩)), (2, .bool false), (22, .agg (bytesC 136 x.e).toArray), (23, .int .i64 xs0_1)] a ∧ Ms X (fps [.blk b 28 (Col.cells x)]) w0 [.blk b 28 (Col.cells x)] [] w) (k0 := k) ⟨0, H, Nat.le_refl _, ht.sub ⟨rfl, rfl, rfl, rfl, trivial⟩, (hm.pick [0] rfl (by decide)).pickφ [] rfl⟩ ?_
      clear H ht hm
      intro q5 a w hJ
      obtain ⟨xs0_1, H, hqq5, ht, hm⟩ := hJ
      cases q5 with
      | zero => cases H
      | succ q5 =>
      rw [impl_Colouring_isColouring.l0] at H
      refine wp_seq ?_
      refine wpr ?_
      refine wpl rfl rfl ht (ev_cmp ht rfl rfl rfl rfl) ?_
      intro a ht
      refine wpList_nil ?_
      refine then_normal ?_
      refine wp_seq ?_
      by_cases h6 : xs0_1 < 136
      · replace H := ite_yes h6 H
        refine wpc_yes ht rfl (decide_eq_true h6) ?_
        refine wp_skip ?_
        refine then_normal ?_
        refine wp_seq ?_
        refine wp_block ?_
        refine wp_seq ?_
        refine wpr ?_
        refine wpl rfl rfl ht (ev_move ht rfl rfl) ?_
        intro a ht
        obtain ⟨t7, et7, H⟩ := bind_get H
        refine wpl rfl rfl ht (ev_index_bytes ht rfl rfl rfl und_22 sc_5 sz1_5 et7) ?_
        intro a ht
        refine wpl rfl rfl ht (ev_assign ht rfl rfl) ?_
        intro a ht
        refine wpl rfl rfl ht (ev_assign ht rfl rfl) ?_
        intro a ht
        refine wpList_nil ?_
        refine then_normal ?_
        refine wp_seq ?_
        refine wpr ?_
        refine wpl rfl rfl ht (ev_move ht rfl rfl) ?_
        intro a ht
        refine wpl rfl rfl ht (ev_convert ht rfl rfl und_5 und_2) ?_
        intro a ht
        refine wpl rfl rfl ht (ev_move ht rfl rfl) ?_
        intro a ht
        refine wpl rfl rfl ht (ev_nilCheck ht rfl rfl) ?_
        intro a ht
        refine wpl rfl rfl ht (ev_fieldAddr ht rfl rfl fo_28_1) ?_
        intro a ht
        refine wpl rfl rfl ht (ev_load ht rfl rfl sc_2 (hm.blk_cell 0 rfl rfl)) ?_
        intro a ht
        refine wpl rfl rfl ht (ev_cmp ht rfl rfl rfl rfl) ?_
        intro a ht
        refine wpl rfl rfl ht (ev_move ht rfl rfl) ?_
        intro a ht
        by_cases h8 : (w64 t7) ≥ x.k
        · replace H := ite_yes h8 H
          refine wpl_no rfl rfl ht rfl (by rw [(decide_eq_true h8)]; decide) ?_
          intro a ht
          refine wpl_no rfl rfl ht rfl (by rw [(decide_eq_true h8)]; decide) ?_
          intro a ht
          refine wpl_no rfl rfl ht rfl (by rw [(decide_eq_true h8)]; decide) ?_
          intro a ht
          refine wpl_no rfl rfl ht rfl (by rw [(decide_eq_true h8)]; decide) ?_
          intro a ht
          refine wpl_no rfl rfl ht rfl (by rw [(decide_eq_true h8)]; decide) ?_
          intro a ht
          refine wpl_none rfl rfl ht rfl ?_
          intro a ht
          refine wpl_none rfl rfl ht rfl ?_
          intro a ht
          refine wpl_no rfl rfl ht rfl (by rw [(decide_eq_true h8)]; decide) ?_
          intro a ht
          refine wpl rfl rfl ht (ev_pick_yes ht rfl rfl (decide_eq_true h8) rfl) ?_
          intro a ht
          refine wpList_nil ?_
          refine then_normal ?_
          refine wpc_yes ht rfl rfl ?_
          refine wp_seq ?_
          refine wpr ?_
          refine wpl rfl rfl ht (ev_assign ht rfl rfl) ?_
          intro a ht
          refine wpList_nil ?_
          refine then_normal ?_
          refine wp_ret ?_
          refine blk_ret ?_
          refine then_ret ?_
          refine then_ret ?_
          refine blk_ret ?_
          refine then_ret ?_
          have hres := ht.res (P := Try.prog) (w := w) (rs := [.tmp 2]) (vs := [.bool false]) (.tmp rfl .nil)
          obtain rfl := Option.some.inj H
          exact leave ht rfl hres ⟨rfl, ((hm.pick [0] rfl (by decide)).pickφ [] rfl).post fun _ h => h⟩
        · replace H := ite_no h8 H
          refine wpl_yes rfl ht rfl ((decide_eq_false h8)) ?_
          refine wpl rfl rfl ht (ev_move ht rfl rfl) ?_
          intro a ht
          refine wpl_yes rfl ht rfl ((decide_eq_false h8)) ?_
          refine wpl rfl rfl ht (ev_move ht rfl rfl) ?_
          intro a ht
          refine wpl_yes rfl ht rfl ((decide_eq_false h8)) ?_
          obtain ⟨t9, et9, H⟩ := bind_get H
          have hcall := impl_Colouring_edges.calls _ _ b x _ ((fun (hq : Ms _ _ _ ([.blk b 28 (Col.cells x)] ++ []) _ _) => hq.lend (φp := []) (allRO_nil)) (hm.pick (own' := [.blk b 28 (Col.cells x)] ++ []) [0] rfl (by decide))) et9
          refine wpl_call _ rfl rfl ht rfl rfl rfl rfl can_122 hcall ?_
          clear hcall
          rintro _ w ⟨rfl, hpost⟩ a ht
          replace hm := (hm.pick (own' := [.blk b 28 (Col.cells x)] ++ []) [0] rfl (by decide)).backL hpost
          clear hpost
          refine wpl_yes rfl ht rfl ((decide_eq_false h8)) ?_
          refine wpl rfl rfl ht (ev_cmp ht rfl rfl rfl rfl) ?_
          intro a ht
          refine wpl_yes rfl ht rfl ((decide_eq_false h8)) ?_
          refine wpl rfl rfl ht (ev_move ht rfl rfl) ?_
          intro a ht
          by_cases h10 : xs0_1 ≥ t9
          · replace H := ite_yes h10 H
            refine wpl_yes rfl ht rfl ((decide_eq_true h10)) ?_
            refine wpl rfl rfl ht (ev_move ht rfl rfl) ?_
            intro a ht
            refine wpl_yes rfl ht rfl ((decide_eq_true h10)) ?_
            refine wpl rfl rfl ht (ev_cmp ht rfl rfl rfl rfl) ?_
            intro a ht
            refine wpl_yes rfl ht rfl ((decide_eq_false h8)) ?_
            refine wpl rfl rfl ht (ev_pick_yes ht rfl rfl (decide_eq_true h10) rfl) ?_
            intro a ht
            refine wpl rfl rfl ht (ev_pick_no ht rfl rfl (decide_eq_false h8) rfl) ?_
            intro a ht
            refine wpList_nil ?_
            refine then_normal ?_
            by_cases h11 : t7 ≠ 0
            · replace H := ite_yes h11 H
              refine wpc_yes ht rfl (decide_eq_true h11) ?_
              refine wp_seq ?_
              refine wpr ?_
              refine wpl rfl rfl ht (ev_assign ht rfl rfl) ?_
              intro a ht
              refine wpList_nil ?_
              refine then_normal ?_
              refine wp_ret ?_
              refine blk_ret ?_
              refine then_ret ?_
              refine then_ret ?_
              refine blk_ret ?_
              refine then_ret ?_
              have hres := ht.res (P := Try.prog) (w := w) (rs := [.tmp 2]) (vs := [.bool false]) (.tmp rfl .nil)
              obtain rfl := Option.some.inj H
              exact leave ht rfl hres ⟨rfl, ((hm.pick [0] rfl (by decide)).pickφ [] rfl).post fun _ h => h⟩
            · replace H := ite_no h11 H
              refine wpc_no ht rfl (decide_eq_false h11) ?_
              refine wp_skip ?_
              refine blk_normal ?_
              refine then_normal ?_
              refine wpr ?_
              refine wpl rfl rfl ht (ev_arith ht rfl rfl rfl rfl) ?_
              intro a ht
              refine wpl rfl rfl ht (ev_move ht rfl rfl) ?_
              intro a ht
              refine wpList_nil ?_
              exact then_normal ⟨q5, by omega, (w64 (xs0_1 + 1)), H, by omega, ht.sub ⟨rfl, rfl, rfl, rfl, trivial⟩, (hm.pick [0] rfl (by decide)).pickφ [] rfl⟩
          · replace H := ite_no h10 H
            refine wpl_no rfl rfl ht rfl (by rw [(decide_eq_false h10)]; decide) ?_
            intro a ht
            refine wpl_no rfl rfl ht rfl (by rw [(decide_eq_false h10)]; decide) ?_
            intro a ht
            refine wpl_yes rfl ht rfl ((decide_eq_false h8)) ?_
            refine wpl rfl rfl ht (ev_pick_no ht rfl rfl (decide_eq_false h10) rfl) ?_
            intro a ht
            refine wpl rfl rfl ht (ev_pick_no ht rfl rfl (decide_eq_false h8) rfl) ?_
            intro a ht
            refine wpList_nil ?_
            refine then_normal ?_
            refine wpc_no ht rfl rfl ?_
            refine wp_skip ?_
            refine blk_normal ?_
            refine then_normal ?_
            refine wpr ?_
            refine wpl rfl rfl ht (ev_arith ht rfl rfl rfl rfl) ?_
            intro a ht
            refine wpl rfl rfl ht (ev_move ht rfl rfl) ?_
            intro a ht
            refine wpList_nil ?_
            exact then_normal ⟨q5, by omega, (w64 (xs0_1 + 1)), H, by omega, ht.sub ⟨rfl, rfl, rfl, rfl, trivial⟩, (hm.pick [0] rfl (by decide)).pickφ [] rfl⟩
      · replace H := ite_no h6 H
        refine wpc_no ht rfl (decide_eq_false h6) ?_
        refine wp_exit ?_
        refine then_exit ?_
        refine then_exit ?_
        refine blk_hit ?_
        refine then_normal ?_
        refine wp_seq ?_
        refine wpr ?_
        refine wpl rfl rfl ht (ev_assign ht rfl rfl) ?_
        intro a ht
        refine wpList_nil ?_
        refine then_normal ?_
        refine wp_ret ?_
        have hres := ht.res (P := Try.prog) (w := w) (rs := [.tmp 2]) (vs := [.bool true]) (.tmp rfl .nil)
        obtain rfl := Option.some.inj H
        exact leave ht rfl hres ⟨rfl, ((hm.pick [0] rfl (by decide)).pickφ [] rfl).post fun _ h => h⟩
    · replace H := ite_no h4 H
      refine wpc_yes ht rfl (not_f (Bool.eq_false_iff.mpr h4)) ?_
      refine wp_seq ?_
      refine wpr ?_
      refine wpl rfl rfl ht (ev_assign ht rfl rfl) ?_
      intro a ht
      refine wpList_nil ?_
      refine then_normal ?_
      refine wp_ret ?_
      refine then_ret ?_
      have hres := ht.res (P := Try.prog) (w := w) (rs := [.tmp 2]) (vs := [.bool false]) (.tmp rfl .nil)
      obtain rfl := Option.some.inj H
      exact leave ht rfl hres ⟨rfl, ((hm.pick [0] rfl (by decide)).pickφ [] rfl).post fun _ h => h⟩
  · replace H := ite_no h2 H
    refine wpl_no rfl rfl ht rfl (by rw [(not_f (Bool.eq_false_iff.mpr h2))]; decide) ?_
    intro a ht
    refine wpl_no rfl rfl ht rfl (by rw [(not_f (Bool.eq_false_iff.mpr h2))]; decide) ?_
    intro a ht
    refine wpl_no rfl rfl ht rfl (by rw [(not_f (Bool.eq_false_iff.mpr h2))]; decide) ?_
    intro a ht
    refine wpl_no rfl rfl ht rfl (by rw [(not_f (Bool.eq_false_iff.mpr h2))]; decide) ?_
    intro a ht
    refine wpl_no rfl rfl ht rfl (by rw [(not_f (Bool.eq_false_iff.mpr h2))]; decide) ?_
    intro a ht
    refine wpl_no rfl rfl ht rfl (by rw [(not_f (Bool.eq_false_iff.mpr h2))]; decide) ?_
    intro a ht
    refine wpl rfl rfl ht (ev_pick_yes ht rfl rfl (not_f (Bool.eq_false_iff.mpr h2)) rfl) ?_
    intro a ht
    refine wpList_nil ?_
    refine then_normal ?_
    refine wpc_yes ht rfl rfl ?_
    refine wp_seq ?_
    refine wpr ?_
    refine wpl rfl rfl ht (ev_assign ht rfl rfl) ?_
    intro a ht
    refine wpList_nil ?_
    refine then_normal ?_
    refine wp_ret ?_
    refine then_ret ?_
    have hres := ht.res (P := Try.prog) (w := w) (rs := [.tmp 2]) (vs := [.bool false]) (.tmp rfl .nil)
    obtain rfl := Option.some.inj H
    exact leave ht rfl hres ⟨rfl, ((hm.pick [0] rfl (by decide)).pickφ [] rfl).post fun _ h => h⟩

/-! ### impl_Colouring_hasColour: function 54 ((*loop.example/g01362/impl.Colouring).hasColour) -/
def impl_Colouring_hasColour.f (x : Col) (c : Int) : Option (Bool) := (impl_in.f c 0 (w64 (x.k - 1))).bind fun t1 => some t1
set_option maxRecDepth 100000 in
set_option maxHeartbeats 1000000 in
theorem impl_Colouring_hasColour.calls (X : List Nat) (w0 : World) (b : Nat) (x : Col) (c : Int) (r : Bool)
    (hp : Pre X w0 [.blk b 28 (Col.cells x)] []) (H : impl_Colouring_hasColour.f x c = some r) :
    Calls Try.prog 54 [.pointer (some ⟨b, 0, none⟩), .int .i64 c].toArray w0 (Ret fun v w => v = .bool r ∧ Post X (fps [.blk b 28 (Col.cells x)]) w0 [.blk b 28 (Col.cells x)] [] w) := by
  unfold impl_Colouring_hasColour.f at H
  refine enterM (n := 12) hp Try.func54 rfl rfl (Nat.le_of_ble_eq_true rfl) fun a w ht hm => ?_
  refine wp_seq ?_
  refine wpr ?_
  refine wpl rfl rfl ht (ev_assign ht rfl rfl) ?_
  intro a ht
  refine wpList_nil ?_
  refine then_normal ?_
  refine wp_seq ?_
  refine wpr ?_
  refine wpl rfl rfl ht (ev_move ht rfl rfl) ?_
  intro a ht
  refine wpl rfl rfl ht (ev_move ht rfl rfl) ?_
  intro a ht
  refine wpl rfl rfl ht (ev_nilCheck ht rfl rfl) ?_
  intro a ht
  refine wpl rfl rfl ht (ev_fieldAddr ht rfl rfl fo_28_1) ?_
  intro a ht
  refine wpl rfl rfl ht (ev_load ht rfl rfl sc_2 (hm.blk_cell 0 rfl rfl)) ?_
  intro a ht
  refine wpl rfl rfl ht (ev_arith ht rfl rfl rfl rfl) ?_
  intro a ht
  obtain ⟨t1, et1, H⟩ := bind_get H
  have hcall := impl_in.calls _ _ c 0 (w64 (x.k - 1)) _ ((fun (hq : Ms _ _ _ ([] ++ [.blk b 28 (Col.cells x)]) _ _) => hq.lend (φp := []) (allRO_nil)) (hm.pick (own' := [] ++ [.blk b 28 (Col.cells x)]) [0] rfl (by decide))) et1
  refine wpl_call _ rfl rfl ht rfl rfl rfl rfl can_61 hcall ?_
  clear hcall
  rintro _ w ⟨rfl, hpost⟩ a ht
  replace hm := (hm.pick (own' := [] ++ [.blk b 28 (Col.cells x)]) [0] rfl (by decide)).backL hpost
  clear hpost
  refine wpl rfl rfl ht (ev_assign ht rfl rfl) ?_
  intro a ht
  refine wpList_nil ?_
  refine then_normal ?_
  refine wp_ret ?_
  have hres := ht.res (P := Try.prog) (w := w) (rs := [.tmp 4]) (vs := [.bool t1]) (.tmp rfl .nil)
  obtain rfl := Option.some.inj H
  exact leave ht rfl hres ⟨rfl, ((hm.pick [0] rfl (by decide)).pickφ [] rfl).post fun _ h => h⟩

/-! ### impl_FullCliques_1: function 95 (loop.example/g01362/impl.FullCliques$1) -/
def impl_FullCliques_1.f (x : Col) (x2 : Int) : Option (Bool) := (impl_Colouring_hasColour.f x x2).bind fun t1 => some t1
set_option maxRecDepth 100000 in
set_option maxHeartbeats 1000000 in
theorem impl_FullCliques_1.calls (X : List Nat) (w0 : World) (b : Nat) (b2 : Nat) (x : Col) (x2 : Int) (r : Bool)
    (hp : Pre X w0 [.blk b 28 (Col.cells x), .blk b2 2 [.int .i64 x2]] []) (H : impl_FullCliques_1.f x x2 = some r) :
    Calls Try.prog 95 [.pointer (some ⟨b, 0, none⟩), .pointer (some ⟨b2, 0, none⟩)].toArray w0 (Ret fun v w => v = .bool r ∧ Post X (fps [.blk b 28 (Col.cells x), .blk b2 2 [.int .i64 x2]]) w0 [.blk b 28 (Col.cells x), .blk b2 2 [.int .i64 x2]] [] w) := by
  unfold impl_FullCliques_1.f at H
  refine enterM (n := 5) hp Try.func95 rfl rfl (Nat.le_of_ble_eq_true rfl) fun a w ht hm => ?_
  refine wp_seq ?_
  refine wpr ?_
  refine wpl rfl rfl ht (ev_assign ht rfl rfl) ?_
  intro a ht
  refine wpList_nil ?_
  refine then_normal ?_
  refine wp_seq ?_
  refine wpr ?_
  refine wpl rfl rfl ht (ev_load ht rfl rfl sc_2 (hm.blk_cell 1 rfl rfl)) ?_
  intro a ht
  obtain ⟨t1, et1, H⟩ := bind_get H
  have hcall := impl_Colouring_hasColour.calls _ _ b x x2 _ ((fun (hq : Ms _ _ _ ([.blk b 28 (Col.cells x)] ++ [.blk b2 2 [.int .i64 x2]]) _ _) => hq.lend (φp := []) (allRO_nil)) (hm.pick (own' := [.blk b 28 (Col.cells x)] ++ [.blk b2 2 [.int .i64 x2]]) [0, 1] rfl (by decide))) et1
  refine wpl_call _ rfl rfl ht rfl rfl rfl rfl can_54 hcall ?_
  clear hcall
  rintro _ w ⟨rfl, hpost⟩ a ht
  replace hm := (hm.pick (own' := [.blk b 28 (Col.cells x)] ++ [.blk b2 2 [.int .i64 x2]]) [0, 1] rfl (by decide)).backL hpost
  clear hpost
  refine wpl rfl rfl ht (ev_assign ht rfl rfl) ?_
  intro a ht
  refine wpList_nil ?_
  refine then_normal ?_
  refine wp_ret ?_
  have hres := ht.res (P := Try.prog) (w := w) (rs := [.tmp 2]) (vs := [.bool t1]) (.tmp rfl .nil)
  obtain rfl := Option.some.inj H
  exact leave ht rfl hres ⟨rfl, ((hm.pick [0, 1] rfl (by decide)).pickφ [] rfl).post fun _ h => h⟩

/-! ### impl_Colouring_code__FullCliques_1: function 52 ((*loop.example/g01362/impl.Colouring).code) -/
def impl_Colouring_code__FullCliques_1.f (k : Nat) (x : Col) (right : Int) : Option (Int) := (impl_Colouring_isColouring.f k x).bind fun t1 => if t1 = true then ((impl_FullCliques_1.f x right).bind fun t3 => if t3 = true then (some 0) else (some 2)) else (some 1)
set_option maxRecDepth 100000 in
set_option maxHeartbeats 1000000 in
theorem impl_Colouring_code__FullCliques_1.calls (k : Nat) (X : List Nat) (w0 : World) (b : Nat) (b2 : Nat) (x : Col) (right : Int) (r : Int)
    (hp : Pre X w0 [.blk b 28 (Col.cells x), .blk b2 2 [.int .i64 right]] []) (H : impl_Colouring_code__FullCliques_1.f k x right = some r) :
    Calls Try.prog 52 [.pointer (some ⟨b, 0, none⟩), .func (.func 95) [].toArray [.pointer (some ⟨b, 0, none⟩), .pointer (some ⟨b2, 0, none⟩)].toArray].toArray w0 (Ret fun v w => v = .int .i64 r ∧ Post X (fps [.blk b 28 (Col.cells x), .blk b2 2 [.int .i64 right]]) w0 [.blk b 28 (Col.cells x), .blk b2 2 [.int .i64 right]] [] w) := by
  unfold impl_Colouring_code__FullCliques_1.f at H
  refine enterM (n := 13) hp Try.func52 rfl rfl (Nat.le_of_ble_eq_true rfl) fun a w ht hm => ?_
  refine wp_seq ?_
  refine wpr ?_
  refine wpl rfl rfl ht (ev_assign ht rfl rfl) ?_
  intro a ht
  refine wpList_nil ?_
  refine then_normal ?_
  refine wp_seq ?_
  refine wp_block ?_
  refine wp_seq ?_
  refine wpr ?_
  refine wpl rfl rfl ht (ev_move ht rfl rfl) ?_
  intro a ht
  obtain ⟨t1, et1, H⟩ := bind_get H
  have hcall := impl_Colouring_isColouring.calls k _ _ b x _ ((fun (hq : Ms _ _ _ ([.blk b 28 (Col.cells x)] ++ [.blk b2 2 [.int .i64 right]]) _ _) => hq.lend (φp := []) (allRO_nil)) (hm.pick (own' := [.blk b 28 (Col.cells x)] ++ [.blk b2 2 [.int .i64 right]]) [0, 1] rfl (by decide))) et1
  refine wpl_call _ rfl rfl ht rfl rfl rfl rfl can_101 hcall ?_
  clear hcall
  rintro _ w ⟨rfl, hpost⟩ a ht
  replace hm := (hm.pick (own' := [.blk b 28 (Col.cells x)] ++ [.blk b2 2 [.int .i64 right]]) [0, 1] rfl (by decide)).backL hpost
  clear hpost
  refine wpl rfl rfl ht (ev_not ht rfl rfl) ?_
  intro a ht
  refine wpl rfl rfl ht (ev_assign ht rfl rfl) ?_
  intro a ht
  refine wpList_nil ?_
  refine then_normal ?_
  by_cases h2 : t1 = true
  · replace H := ite_yes h2 H
    refine wpc_no ht rfl (not_t h2) ?_
    refine wp_seq ?_
    refine wpr ?_
    refine wpl rfl rfl ht (ev_move ht rfl rfl) ?_
    intro a ht
    obtain ⟨t3, et3, H⟩ := bind_get H
    have hcall := impl_FullCliques_1.calls _ _ b b2 x right _ ((fun (hq : Ms _ _ _ ([.blk b 28 (Col.cells x), .blk b2 2 [.int .i64 right]] ++ []) _ _) => hq.lend (φp := []) (allRO_nil)) (hm.pick (own' := [.blk b 28 (Col.cells x), .blk b2 2 [.int .i64 right]] ++ []) [0, 1] rfl (by decide))) et3
    refine wpl_call _ rfl rfl ht rfl rfl rfl rfl can_95 hcall ?_
    clear hcall
    rintro _ w ⟨rfl, hpost⟩ a ht
    replace hm := (hm.pick (own' := [.blk b 28 (Col.cells x), .blk b2 2 [.int .i64 right]] ++ []) [0, 1] rfl (by decide)).backL hpost
    clear hpost
    refine wpl rfl rfl ht (ev_not ht rfl rfl) ?_
    intro a ht
    refine wpl rfl rfl ht (ev_assign ht rfl rfl) ?_
    intro a ht
    refine wpList_nil ?_
    refine then_normal ?_
    by_cases h4 : t3 = true
    · replace H := ite_yes h4 H
      refine wpc_no ht rfl (not_t h4) ?_
      refine wp_skip ?_
      refine blk_normal ?_
      refine then_normal ?_
      refine wp_seq ?_
      refine wpr ?_
      refine wpl rfl rfl ht (ev_assign ht rfl rfl) ?_
      intro a ht
      refine wpList_nil ?_
      refine then_normal ?_
      refine wp_ret ?_
      have hres := ht.res (P := Try.prog) (w := w) (rs := [.tmp 4]) (vs := [.int .i64 0]) (.tmp rfl .nil)
      obtain rfl := Option.some.inj H
      exact leave ht rfl hres ⟨rfl, ((hm.pick [0, 1] rfl (by decide)).pickφ [] rfl).post fun _ h => h⟩
    · replace H := ite_no h4 H
      refine wpc_yes ht rfl (not_f (Bool.eq_false_iff.mpr h4)) ?_
      refine wp_seq ?_
      refine wpr ?_
      refine wpl rfl rfl ht (ev_assign ht rfl rfl) ?_
      intro a ht
      refine wpList_nil ?_
      refine then_normal ?_
      refine wp_ret ?_
      refine blk_ret ?_
      refine then_ret ?_
      have hres := ht.res (P := Try.prog) (w := w) (rs := [.tmp 4]) (vs := [.int .i64 2]) (.tmp rfl .nil)
      obtain rfl := Option.some.inj H
      exact leave ht rfl hres ⟨rfl, ((hm.pick [0, 1] rfl (by decide)).pickφ [] rfl).post fun _ h => h⟩
  · replace H := ite_no h2 H
    refine wpc_yes ht rfl (not_f (Bool.eq_false_iff.mpr h2)) ?_
    refine wp_seq ?_
    refine wpr ?_
    refine wpl rfl rfl ht (ev_assign ht rfl rfl) ?_
    intro a ht
    refine wpList_nil ?_
    refine then_normal ?_
    refine wp_ret ?_
    refine blk_ret ?_
    refine then_ret ?_
    have hres := ht.res (P := Try.prog) (w := w) (rs := [.tmp 4]) (vs := [.int .i64 1]) (.tmp rfl .nil)
    obtain rfl := Option.some.inj H
    exact leave ht rfl hres ⟨rfl, ((hm.pick [0, 1] rfl (by decide)).pickφ [] rfl).post fun _ h => h⟩

/-! ### slices_Index_int64_int64: function 106 (slices.Index[[]int64,int64]) -/
def slices_Index_int64_int64.l0 : Nat → List Int → Int → Int → Option (Int)
  | 0, _, _, _ => none
  | q1 + 1, s, v, xs0_1 => if xs0_1 < (s.length : Int) then ((getI s xs0_1).bind fun t3 => if v = t3 then (some xs0_1) else (slices_Index_int64_int64.l0 q1 s v (w64 (xs0_1 + 1)))) else (some (-1))
def slices_Index_int64_int64.f (k : Nat) (s : List Int) (v : Int) : Option (Int) := slices_Index_int64_int64.l0 k s v 0
set_option maxRecDepth 100000 in
set_option maxHeartbeats 1000000 in
theorem slices_Index_int64_int64.calls (k : Nat) (X : List Nat) (w0 : World) (A : Option Addr) (c : Nat) (m : Nat) (s : List Int) (v : Int) (r : Int)
    (hp : Pre X w0 [] [IntsAt A c m s]) (H : slices_Index_int64_int64.f k s v = some r) :
    Calls Try.prog 106 [.slice A m c, .int .i64 v].toArray w0 (Ret fun v w => v = .int .i64 r ∧ Post X (fps []) w0 [] [] w) := by
  unfold slices_Index_int64_int64.f at H
  refine enterM (n := 19) hp Try.func106 rfl rfl (Nat.le_of_ble_eq_true rfl) fun a w ht hm => ?_
  refine wp_seq ?_
  refine wpr ?_
  refine wpl rfl rfl ht (ev_assign ht rfl rfl) ?_
  intro a ht
  refine wpList_nil ?_
  refine then_normal ?_
  refine wp_seq ?_
  refine wp_seq ?_
  refine wpr ?_
  refine wpl rfl rfl ht (ev_move ht rfl rfl) ?_
  intro a ht
  refine wpl rfl rfl ht (ev_len_of ht rfl rfl und_25 (hm.fact (φ := IntsAt A c m s) 0 rfl)) ?_
  intro a ht
  refine wpl rfl rfl ht (ev_move ht rfl rfl) ?_
  intro a ht
  refine wpList_nil ?_
  refine then_normal ?_
  refine wp_block ?_
  refine wpLoop (fun q a w => ∃ (xs0_1 : Int), slices_Index_int64_int64.l0 q s v xs0_1 = some r ∧ q ≤ k ∧ Tm 19 [(0, .slice A m c), (1, .int .i64 v), (4, .int .i64 0), (7, .int .i64 (s.length : Int)), (8, .int .i64 xs0_1)] a ∧ Ms X (fps []) w0 [] [IntsAt A c m s] w) (k0 := k) ⟨0, H, Nat.le_refl _, ht.sub ⟨rfl, rfl, rfl, rfl, rfl, trivial⟩, (hm.pick [] rfl (by decide)).pickφ [0] rfl⟩ ?_
  clear H ht hm
  intro q1 a w hJ
  obtain ⟨xs0_1, H, hqq1, ht, hm⟩ := hJ
  cases q1 with
  | zero => cases H
  | succ q1 =>
  rw [slices_Index_int64_int64.l0] at H
  refine wp_seq ?_
  refine wpr ?_
  refine wpl rfl rfl ht (ev_cmp ht rfl rfl rfl rfl) ?_
  intro a ht
  refine wpList_nil ?_
  refine then_normal ?_
  refine wp_seq ?_
  by_cases h2 : xs0_1 < (s.length : Int)
  · replace H := ite_yes h2 H
    refine wpc_yes ht rfl (decide_eq_true h2) ?_
    refine wp_skip ?_
    refine then_normal ?_
    refine wp_seq ?_
    refine wp_block ?_
    refine wp_seq ?_
    refine wpr ?_
    refine wpl rfl rfl ht (ev_move ht rfl rfl) ?_
    intro a ht
    refine wpl rfl rfl ht (ev_assign ht rfl rfl) ?_
    intro a ht
    refine wpList_nil ?_
    refine then_normal ?_
    refine wp_seq ?_
    refine wpr ?_
    refine wpl rfl rfl ht (ev_move ht rfl rfl) ?_
    intro a ht
    refine wpl rfl rfl ht (ev_move ht rfl rfl) ?_
    intro a ht
    refine wpl rfl rfl ht (ev_move ht rfl rfl) ?_
    intro a ht
    obtain ⟨t3, et3, H⟩ := bind_get H
    refine wpl rfl rfl ht (ev_index_ints ht rfl rfl rfl so_25 (hm.fact (φ := IntsAt A c m s) 0 rfl) et3) ?_
    intro a ht
    refine wpl rfl rfl ht (ev_load ht rfl rfl sc_2 (RowAt.cell (hm.fact (φ := IntsAt A c m s) 0 rfl) (ints_get et3) rfl)) ?_
    intro a ht
    refine wpl rfl rfl ht (ev_cmp ht rfl rfl rfl rfl) ?_
    intro a ht
    refine wpList_nil ?_
    refine then_normal ?_
    by_cases h4 : v = t3
    · replace H := ite_yes h4 H
      refine wpc_yes ht rfl (decide_eq_true h4) ?_
      refine wp_seq ?_
      refine wpr ?_
      refine wpl rfl rfl ht (ev_move ht rfl rfl) ?_
      intro a ht
      refine wpl rfl rfl ht (ev_assign ht rfl rfl) ?_
      intro a ht
      refine wpList_nil ?_
      refine then_normal ?_
      refine wp_ret ?_
      refine blk_ret ?_
      refine then_ret ?_
      refine then_ret ?_
      refine blk_ret ?_
      refine then_ret ?_
      have hres := ht.res (P := Try.prog) (w := w) (rs := [.tmp 4]) (vs := [.int .i64 xs0_1]) (.tmp rfl .nil)
      obtain rfl := Option.some.inj H
      exact leave ht rfl hres ⟨rfl, ((hm.pick [] rfl (by decide)).pickφ [] rfl).post fun _ h => h⟩
    · replace H := ite_no h4 H
      refine wpc_no ht rfl (decide_eq_false h4) ?_
      refine wp_skip ?_
      refine blk_normal ?_
      refine then_normal ?_
      refine wpr ?_
      refine wpl rfl rfl ht (ev_arith ht rfl rfl rfl rfl) ?_
      intro a ht
      refine wpl rfl rfl ht (ev_move ht rfl rfl) ?_
      intro a ht
      refine wpList_nil ?_
      exact then_normal ⟨q1, by omega, (w64 (xs0_1 + 1)), H, by omega, ht.sub ⟨rfl, rfl, rfl, rfl, rfl, trivial⟩, (hm.pick [] rfl (by decide)).pickφ [0] rfl⟩
  · replace H := ite_no h2 H
    refine wpc_no ht rfl (decide_eq_false h2) ?_
    refine wp_exit ?_
    refine then_exit ?_
    refine then_exit ?_
    refine blk_hit ?_
    refine then_normal ?_
    refine wp_seq ?_
    refine wpr ?_
    refine wpl rfl rfl ht (ev_assign ht rfl rfl) ?_
    intro a ht
    refine wpList_nil ?_
    refine then_normal ?_
    refine wp_ret ?_
    have hres := ht.res (P := Try.prog) (w := w) (rs := [.tmp 4]) (vs := [.int .i64 (-1)]) (.tmp rfl .nil)
    obtain rfl := Option.some.inj H
    exact leave ht rfl hres ⟨rfl, ((hm.pick [] rfl (by decide)).pickφ [] rfl).post fun _ h => h⟩

/-! ### slices_Contains_int64_int64: function 67 (slices.Contains[[]int64,int64]) -/
def slices_Contains_int64_int64.f (k : Nat) (s : List Int) (v : Int) : Option (Bool) := (slices_Index_int64_int64.f k s v).bind fun t1 => some (decide (t1 ≥ 0))
set_option maxRecDepth 100000 in
set_option maxHeartbeats 1000000 in
theorem slices_Contains_int64_int64.calls (k : Nat) (X : List Nat) (w0 : World) (A : Option Addr) (c : Nat) (m : Nat) (s : List Int) (v : Int) (r : Bool)
    (hp : Pre X w0 [] [IntsAt A c m s]) (H : slices_Contains_int64_int64.f k s v = some r) :
    Calls Try.prog 67 [.slice A m c, .int .i64 v].toArray w0 (Ret fun v w => v = .bool r ∧ Post X (fps []) w0 [] [] w) := by
  unfold slices_Contains_int64_int64.f at H
  refine enterM (n := 9) hp Try.func67 rfl rfl (Nat.le_of_ble_eq_true rfl) fun a w ht hm => ?_
  refine wp_seq ?_
  refine wpr ?_
  refine wpl rfl rfl ht (ev_assign ht rfl rfl) ?_
  intro a ht
  refine wpList_nil ?_
  refine then_normal ?_
  refine wp_seq ?_
  refine wpr ?_
  refine wpl rfl rfl ht (ev_move ht rfl rfl) ?_
  intro a ht
  refine wpl rfl rfl ht (ev_move ht rfl rfl) ?_
  intro a ht
  obtain ⟨t1, et1, H⟩ := bind_get H
  have hcall := slices_Index_int64_int64.calls k _ _ A c m s v _ ((fun (hq : Ms _ _ _ ([] ++ []) _ _) => hq.lend (φp := [IntsAt A c m s]) (allRO_cons (hq.lendFact 0 rfl) (allRO_nil))) (hm.pick (own' := [] ++ []) [] rfl (by decide))) et1
  refine wpl_call _ rfl rfl ht rfl rfl rfl rfl can_106 hcall ?_
  clear hcall
  rintro _ w ⟨rfl, hpost⟩ a ht
  replace hm := (hm.pick (own' := [] ++ []) [] rfl (by decide)).backL hpost
  clear hpost
  refine wpl rfl rfl ht (ev_cmp ht rfl rfl rfl rfl) ?_
  intro a ht
  refine wpl rfl rfl ht (ev_assign ht rfl rfl) ?_
  intro a ht
  refine wpList_nil ?_
  refine then_normal ?_
  refine wp_ret ?_
  have hres := ht.res (P := Try.prog) (w := w) (rs := [.tmp 4]) (vs := [.bool (decide (t1 ≥ 0))]) (.tmp rfl .nil)
  obtain rfl := Option.some.inj H
  exact leave ht rfl hres ⟨rfl, ((hm.pick [] rfl (by decide)).pickφ [] rfl).post fun _ h => h⟩

/-! ### impl_number: function 127 (loop.example/g01362/impl.number) -/
def impl_number.f (i : Int) (j : Int) : Option (Int) := some (w64 ((w64 (Int.tdiv (w64 ((max i j) * (w64 ((max i j) - 1)))) 2)) + (min i j)))
set_option maxRecDepth 100000 in
set_option maxHeartbeats 1000000 in
theorem impl_number.calls (X : List Nat) (w0 : World)  (i : Int) (j : Int) (r : Int)
    (hp : Pre X w0 [] []) (H : impl_number.f i j = some r) :
    Calls Try.prog 127 [.int .i64 i, .int .i64 j].toArray w0 (Ret fun v w => v = .int .i64 r ∧ Post X (fps []) w0 [] [] w) := by
  unfold impl_number.f at H
  refine enterM (n := 18) hp Try.func127 rfl rfl (Nat.le_of_ble_eq_true rfl) fun a w ht hm => ?_
  refine wp_seq ?_
  refine wpr ?_
  refine wpl rfl rfl ht (ev_assign ht rfl rfl) ?_
  intro a ht
  refine wpList_nil ?_
  refine then_normal ?_
  refine wp_seq ?_
  refine wpr ?_
  refine wpl rfl rfl ht (ev_move ht rfl rfl) ?_
  intro a ht
  refine wpl rfl rfl ht (ev_move ht rfl rfl) ?_
  intro a ht
  refine wpl rfl rfl ht (ev_min ht rfl rfl rfl) ?_
  intro a ht
  refine wpl rfl rfl ht (ev_move ht rfl rfl) ?_
  intro a ht
  refine wpl rfl rfl ht (ev_move ht rfl rfl) ?_
  intro a ht
  refine wpl rfl rfl ht (ev_max ht rfl rfl rfl) ?_
  intro a ht
  refine wpl rfl rfl ht (ev_assign ht rfl rfl) ?_
  intro a ht
  refine wpl rfl rfl ht (ev_assign ht rfl rfl) ?_
  intro a ht
  refine wpList_nil ?_
  refine then_normal ?_
  refine wp_seq ?_
  refine wpr ?_
  refine wpl rfl rfl ht (ev_move ht rfl rfl) ?_
  intro a ht
  refine wpl rfl rfl ht (ev_move ht rfl rfl) ?_
  intro a ht
  refine wpl rfl rfl ht (ev_arith ht rfl rfl rfl rfl) ?_
  intro a ht
  refine wpl rfl rfl ht (ev_arith ht rfl rfl rfl rfl) ?_
  intro a ht
  refine wpl rfl rfl ht (ev_quo ht rfl rfl rfl (by decide)) ?_
  intro a ht
  refine wpl rfl rfl ht (ev_move ht rfl rfl) ?_
  intro a ht
  refine wpl rfl rfl ht (ev_arith ht rfl rfl rfl rfl) ?_
  intro a ht
  refine wpl rfl rfl ht (ev_assign ht rfl rfl) ?_
  intro a ht
  refine wpList_nil ?_
  refine then_normal ?_
  refine wp_ret ?_
  have hres := ht.res (P := Try.prog) (w := w) (rs := [.tmp 4]) (vs := [.int .i64 (w64 ((w64 (Int.tdiv (w64 ((max i j) * (w64 ((max i j) - 1)))) 2)) + (min i j)))]) (.tmp rfl .nil)
  obtain rfl := Option.some.inj H
  exact leave ht rfl hres ⟨rfl, ((hm.pick [] rfl (by decide)).pickφ [] rfl).post fun _ h => h⟩

/-! ### impl_Colouring_at: function 118 ((*loop.example/g01362/impl.Colouring).at) -/
def impl_Colouring_at.f (x : Col) (i : Int) (j : Int) : Option (Int) := (impl_number.f i j).bind fun t1 => (getB 136 x.e t1).bind fun t2 => some (w64 t2)
set_option maxRecDepth 100000 in
set_option maxHeartbeats 1000000 in
theorem impl_Colouring_at.calls (X : List Nat) (w0 : World) (b : Nat) (x : Col) (i : Int) (j : Int) (r : Int)
    (hp : Pre X w0 [.blk b 28 (Col.cells x)] []) (H : impl_Colouring_at.f x i j = some r) :
    Calls Try.prog 118 [.pointer (some ⟨b, 0, none⟩), .int .i64 i, .int .i64 j].toArray w0 (Ret fun v w => v = .int .i64 r ∧ Post X (fps [.blk b 28 (Col.cells x)]) w0 [.blk b 28 (Col.cells x)] [] w) := by
  unfold impl_Colouring_at.f at H
  refine enterM (n := 16) hp Try.func118 rfl rfl (Nat.le_of_ble_eq_true rfl) fun a w ht hm => ?_
  refine wp_seq ?_
  refine wpr ?_
  refine wpl rfl rfl ht (ev_assign ht rfl rfl) ?_
  intro a ht
  refine wpList_nil ?_
  refine then_normal ?_
  refine wp_seq ?_
  refine wph_begin (fun w => Ms X (fps [.blk b 28 (Col.cells x)]) w0 [.blk b 28 (Col.cells x)] [] w) mixed ?_
  replace hm := hm.drew
  have hS : Ms X (fps [.blk b 28 (Col.cells x)]) w0 [.blk b 28 (Col.cells x)] [] w.drew := (hm.pick [0] rfl (by decide)).pickφ [] rfl
  generalize w.drew = w at hm hS ⊢
  refine wph_take (i := 0) rfl (by kernel_rfl) (by kernel_rfl) (by kernel_rfl) (fun _ _ _ h => h) rfl ht hS (wanted_plain rfl) (fun w hm => ev_move ht rfl rfl) ?_
  intro a ht
  refine wph_take (i := 1) rfl (by kernel_rfl) (by kernel_rfl) (by kernel_rfl) (fun _ _ _ h => h) rfl ht hS (wanted_plain rfl) (fun w hm => ev_move ht rfl rfl) ?_
  intro a ht
  refine wph_take (i := 2) rfl (by kernel_rfl) (by kernel_rfl) (by kernel_rfl) (fun _ _ _ h => h) rfl ht hS (wanted_plain rfl) (fun w hm => ev_move ht rfl rfl) ?_
  intro a ht
  refine wph_take (i := 4) rfl (by kernel_rfl) (by kernel_rfl) (by kernel_rfl) (fun _ _ _ h => h) rfl ht hS (wanted_plain rfl) (fun w hm => ev_nilCheck ht rfl rfl) ?_
  intro a ht
  refine wph_take (i := 5) rfl (by kernel_rfl) (by kernel_rfl) (by kernel_rfl) (fun _ _ _ h => h) rfl ht hS (wanted_plain rfl) (fun w hm => ev_fieldAddr ht rfl rfl fo_28_2) ?_
  intro a ht
  refine wph_one (i := 3) (by kernel_rfl) (wph_step rfl ?_)
  obtain ⟨t1, et1, H⟩ := bind_get H
  have hcall := impl_number.calls _ _ i j _ ((fun (hq : Ms _ _ _ ([] ++ [.blk b 28 (Col.cells x)]) _ _) => hq.lend (φp := []) (allRO_nil)) (hm.pick (own' := [] ++ [.blk b 28 (Col.cells x)]) [0] rfl (by decide))) et1
  refine wpl_call _ rfl rfl ht rfl rfl rfl rfl can_127 hcall ?_
  clear hcall
  rintro _ w ⟨rfl, hpost⟩ a ht
  replace hm := (hm.pick (own' := [] ++ [.blk b 28 (Col.cells x)]) [0] rfl (by decide)).backL hpost
  clear hpost
  have hS : Ms X (fps [.blk b 28 (Col.cells x)]) w0 [.blk b 28 (Col.cells x)] [] w := (hm.pick [0] rfl (by decide)).pickφ [] rfl
  refine wpList_nil (qn ⟨hS, ?_⟩)
  obtain ⟨t2, et2, H⟩ := bind_get H
  refine wph_take (i := 6) rfl (by kernel_rfl) (by kernel_rfl) (by kernel_rfl) (fun _ _ _ h => h) rfl ht hS (wanted_plain rfl) (fun w hm => ev_indexAddr_arr ht rfl rfl rfl ar_22 (getB_lo et2) (getB_hi et2)) ?_
  intro a ht
  refine wph_take (i := 7) rfl (by kernel_rfl) (by kernel_rfl) (by kernel_rfl) (fun _ _ _ h => h) rfl ht hS (wanted_plain rfl) (fun w hm => ev_load ht rfl rfl sc_5 (hm.blk_cell 0 rfl (Col.get et2))) ?_
  intro a ht
  refine wph_take (i := 8) rfl (by kernel_rfl) (by kernel_rfl) (by kernel_rfl) (fun _ _ _ h => h) rfl ht hS (wanted_plain rfl) (fun w hm => ev_convert ht rfl rfl und_5 und_2) ?_
  intro a ht
  refine wph_take (i := 9) rfl (by kernel_rfl) (by kernel_rfl) (by kernel_rfl) (fun _ _ _ h => h) rfl ht hS (wanted_plain rfl) (fun w hm => ev_assign ht rfl rfl) ?_
  intro a ht
  refine wph_done (by kernel_rfl) ?_
  refine then_normal ?_
  refine wp_ret ?_
  have hres := ht.res (P := Try.prog) (w := w) (rs := [.tmp 6]) (vs := [.int .i64 (w64 t2)]) (.tmp rfl .nil)
  obtain rfl := Option.some.inj H
  exact leave ht rfl hres ⟨rfl, ((hm.pick [0] rfl (by decide)).pickφ [] rfl).post fun _ h => h⟩

/-! ### impl_Colouring_joins: function 121 ((*loop.example/g01362/impl.Colouring).joins) -/
def impl_Colouring_joins.f (x : Col) (i : Int) (j : Int) (c : Int) : Option (Bool) := if i ≠ j then ((impl_Colouring_at.f x i j).bind fun t2 => some (decide (t2 = c))) else (some false)
set_option maxRecDepth 100000 in
set_option maxHeartbeats 1000000 in
theorem impl_Colouring_joins.calls (X : List Nat) (w0 : World) (b : Nat) (x : Col) (i : Int) (j : Int) (c : Int) (r : Bool)
    (hp : Pre X w0 [.blk b 28 (Col.cells x)] []) (H : impl_Colouring_joins.f x i j c = some r) :
    Calls Try.prog 121 [.pointer (some ⟨b, 0, none⟩), .int .i64 i, .int .i64 j, .int .i64 c].toArray w0 (Ret fun v w => v = .bool r ∧ Post X (fps [.blk b 28 (Col.cells x)]) w0 [.blk b 28 (Col.cells x)] [] w) := by
  unfold impl_Colouring_joins.f at H
  refine enterM (n := 20) hp Try.func121 rfl rfl (Nat.le_of_ble_eq_true rfl) fun a w ht hm => ?_
  refine wp_seq ?_
  refine wpr ?_
  refine wpl rfl rfl ht (ev_assign ht rfl rfl) ?_
  intro a ht
  refine wpList_nil ?_
  refine then_normal ?_
  refine wp_seq ?_
  refine wpr ?_
  refine wpl rfl rfl ht (ev_move ht rfl rfl) ?_
  intro a ht
  refine wpl rfl rfl ht (ev_move ht rfl rfl) ?_
  intro a ht
  refine wpl rfl rfl ht (ev_cmp ht rfl rfl rfl rfl) ?_
  intro a ht
  refine wpl rfl rfl ht (ev_move ht rfl rfl) ?_
  intro a ht
  by_cases h1 : i ≠ j
  · replace H := ite_yes h1 H
    refine wpl_yes rfl ht rfl ((decide_eq_true h1)) ?_
    refine wpl rfl rfl ht (ev_move ht rfl rfl) ?_
    intro a ht
    refine wpl_yes rfl ht rfl ((decide_eq_true h1)) ?_
    refine wpl rfl rfl ht (ev_move ht rfl rfl) ?_
    intro a ht
    refine wpl_yes rfl ht rfl ((decide_eq_true h1)) ?_
    refine wpl rfl rfl ht (ev_move ht rfl rfl) ?_
    intro a ht
    refine wpl_yes rfl ht rfl ((decide_eq_true h1)) ?_
    obtain ⟨t2, et2, H⟩ := bind_get H
    have hcall := impl_Colouring_at.calls _ _ b x i j _ ((fun (hq : Ms _ _ _ ([.blk b 28 (Col.cells x)] ++ []) _ _) => hq.lend (φp := []) (allRO_nil)) (hm.pick (own' := [.blk b 28 (Col.cells x)] ++ []) [0] rfl (by decide))) et2
    refine wpl_call _ rfl rfl ht rfl rfl rfl rfl can_118 hcall ?_
    clear hcall
    rintro _ w ⟨rfl, hpost⟩ a ht
    replace hm := (hm.pick (own' := [.blk b 28 (Col.cells x)] ++ []) [0] rfl (by decide)).backL hpost
    clear hpost
    refine wpl_yes rfl ht rfl ((decide_eq_true h1)) ?_
    refine wpl rfl rfl ht (ev_move ht rfl rfl) ?_
    intro a ht
    refine wpl_yes rfl ht rfl ((decide_eq_true h1)) ?_
    refine wpl rfl rfl ht (ev_cmp ht rfl rfl rfl rfl) ?_
    intro a ht
    refine wpl rfl rfl ht (ev_pick_yes ht rfl rfl (decide_eq_true h1) rfl) ?_
    intro a ht
    refine wpl rfl rfl ht (ev_assign ht rfl rfl) ?_
    intro a ht
    refine wpList_nil ?_
    refine then_normal ?_
    refine wp_ret ?_
    have hres := ht.res (P := Try.prog) (w := w) (rs := [.tmp 8]) (vs := [.bool (decide (t2 = c))]) (.tmp rfl .nil)
    obtain rfl := Option.some.inj H
    exact leave ht rfl hres ⟨rfl, ((hm.pick [0] rfl (by decide)).pickφ [] rfl).post fun _ h => h⟩
  · replace H := ite_no h1 H
    refine wpl_no rfl rfl ht rfl (by rw [(decide_eq_false h1)]; decide) ?_
    intro a ht
    refine wpl_no rfl rfl ht rfl (by rw [(decide_eq_false h1)]; decide) ?_
    intro a ht
    refine wpl_no rfl rfl ht rfl (by rw [(decide_eq_false h1)]; decide) ?_
    intro a ht
    refine wpl_no rfl rfl ht rfl (by rw [(decide_eq_false h1)]; decide) ?_
    intro a ht
    refine wpl_no rfl rfl ht rfl (by rw [(decide_eq_false h1)]; decide) ?_
    intro a ht
    refine wpl_no rfl rfl ht rfl (by rw [(decide_eq_false h1)]; decide) ?_
    intro a ht
    refine wpl rfl rfl ht (ev_pick_no ht rfl rfl (decide_eq_false h1) rfl) ?_
    intro a ht
    refine wpl rfl rfl ht (ev_assign ht rfl rfl) ?_
    intro a ht
    refine wpList_nil ?_
    refine then_normal ?_
    refine wp_ret ?_
    have hres := ht.res (P := Try.prog) (w := w) (rs := [.tmp 8]) (vs := [.bool false]) (.tmp rfl .nil)
    obtain rfl := Option.some.inj H
    exact leave ht rfl hres ⟨rfl, ((hm.pick [0] rfl (by decide)).pickφ [] rfl).post fun _ h => h⟩

end Go.Proofs.Ytdpamdedomkomaa.G
