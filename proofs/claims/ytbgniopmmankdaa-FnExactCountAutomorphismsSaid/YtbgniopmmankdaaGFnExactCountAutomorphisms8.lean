/- What each Go function computes, as a Lean function, and the proof that it does: written by a program of this session (wip/gen), part 8. -/
import Derived.Test.YtbgniopmmankdaaGFnExactCountAutomorphisms7
namespace Go.Proofs.Ytbgniopmmankdaa.G
open Go Go.RowKit Go.Proofs.Ytbgniopmmankdaa.K
set_option linter.unusedVariables false
set_option linter.unusedSimpArgs false

/-! ### impl_CountAutomorphisms: function 9 (loop.example/g01362/impl.CountAutomorphisms) -/
def impl_CountAutomorphisms.f (k : Nat) (x : Col) : Option (Int × Int) := (impl_Colouring_code__always.f k x).bind fun t2 => if t2 ≠ 0 then (some (0, t2)) else ((impl_Colouring_leading__CountAutomorphisms_1.f k x 0).bind fun t5 => if t5.2 > 20000 then (some (0, 3)) else (some (t5.2, 0)))
set_option maxRecDepth 100000 in
set_option maxHeartbeats 20000000 in
theorem impl_CountAutomorphisms.calls (k : Nat) (X : List Nat) (w0 : World)  (x : Col) (r : Int × Int)
    (hp : Pre X w0 [] []) (H : impl_CountAutomorphisms.f k x = some r) :
    Calls Try.prog 9 [.agg (Col.cells x).toArray].toArray w0 (Ret fun v w => v = .tuple [.int .i64 r.1, .int .i64 r.2].toArray ∧ Post X (fps []) w0 [] [] w) := by
  unfold impl_CountAutomorphisms.f at H
  refine enterM (n := 15) hp Try.func9 rfl rfl (Nat.le_of_ble_eq_true rfl) fun a w ht hm => ?_
  refine wp_seq ?_
  refine wpr ?_
  refine wpl_box rfl rfl ht hm rfl rfl rfl ?_
  intro b1 a ht w hm
  refine wpl rfl rfl ht (ev_assign ht rfl rfl) ?_
  intro a ht
  refine wpl rfl rfl ht (ev_assign ht rfl rfl) ?_
  intro a ht
  refine wpList_nil ?_
  refine then_normal ?_
  refine wp_seq ?_
  refine wp_seq ?_
  refine wpr ?_
  obtain ⟨t2, et2, H⟩ := bind_get H
  have hcall := impl_Colouring_code__always.calls k _ _ b1 x _ ((fun (hq : Ms _ _ _ ([.blk b1 27 (Col.cells x)] ++ []) _ _) => hq.lend (φp := []) (allRO_nil)) (hm.pick (own' := [.blk b1 27 (Col.cells x)] ++ []) [0] rfl (by decide))) et2
  refine wpl_call _ rfl rfl ht rfl rfl rfl rfl can_23 hcall ?_
  clear hcall
  rintro _ w ⟨rfl, hpost⟩ a ht
  replace hm := (hm.pick (own' := [.blk b1 27 (Col.cells x)] ++ []) [0] rfl (by decide)).backL hpost
  clear hpost
  refine wpl rfl rfl ht (ev_assign ht rfl rfl) ?_
  intro a ht
  refine wpList_nil ?_
  refine then_normal ?_
  refine wp_seq ?_
  refine wpr ?_
  refine wpl rfl rfl ht (ev_move ht rfl rfl) ?_
  intro a ht
  refine wpl rfl rfl ht (ev_cmp ht rfl rfl rfl rfl) ?_
  intro a ht
  refine wpList_nil ?_
  refine then_normal ?_
  by_cases h3 : t2 ≠ 0
  · replace H := ite_yes h3 H
    refine wpc_yes ht rfl (decide_eq_true h3) ?_
    refine wp_seq ?_
    refine wpr ?_
    refine wpl rfl rfl ht (ev_move ht rfl rfl) ?_
    intro a ht
    refine wpl rfl rfl ht (ev_assign ht rfl rfl) ?_
    intro a ht
    refine wpl rfl rfl ht (ev_assign ht rfl rfl) ?_
    intro a ht
    refine wpList_nil ?_
    refine then_normal ?_
    refine wp_ret ?_
    refine then_ret ?_
    have hres := ht.res (P := Try.prog) (w := w) (rs := [.tmp 2, .tmp 3]) (vs := [.int .i64 0, .int .i64 t2]) (.tmp rfl (.tmp rfl .nil))
    obtain rfl := Option.some.inj H
    exact leave ht rfl hres ⟨rfl, ((hm.pick [] rfl (by decide)).pickφ [] rfl).post fun _ h => h⟩
  · replace H := ite_no h3 H
    refine wpc_no ht rfl (decide_eq_false h3) ?_
    refine wp_skip ?_
    refine then_normal ?_
    refine wp_seq ?_
    refine wpr ?_
    refine wpl_alloc rfl rfl ht hm rfl zo_2 ?_
    intro b4 a ht w hm
    refine wpl_store_blk 0 rfl rfl ht hm rfl rfl rfl sz1_2 rfl rfl rfl ?_
    intro a ht w hm
    refine wpList_nil ?_
    refine then_normal ?_
    refine wp_seq ?_
    refine wpr ?_
    refine wpl rfl rfl ht (ev_makeFunc ht rfl rfl rfl) ?_
    intro a ht
    obtain ⟨t5, et5, H⟩ := bind_get H
    have hcall := impl_Colouring_leading__CountAutomorphisms_1.calls k _ _ b1 b4 x 0 _ ((fun (hq : Ms _ _ _ ([.blk b1 27 (Col.cells x), .blk b4 2 [.int .i64 0]] ++ []) _ _) => hq.lend (φp := []) (allRO_nil)) (hm.pick (own' := [.blk b1 27 (Col.cells x), .blk b4 2 [.int .i64 0]] ++ []) [1, 0] rfl (by decide))) et5
    refine wpl_call _ rfl rfl ht rfl rfl rfl rfl can_25 hcall ?_
    clear hcall
    rintro _ w ⟨rfl, hpost⟩ a ht
    replace hm := (hm.pick (own' := [.blk b1 27 (Col.cells x), .blk b4 2 [.int .i64 0]] ++ []) [1, 0] rfl (by decide)).backL hpost
    clear hpost
    refine wpList_nil ?_
    refine then_normal ?_
    refine wp_seq ?_
    refine wp_seq ?_
    refine wpr ?_
    refine wpl rfl rfl ht (ev_load ht rfl rfl sc_2 (hm.blk_cell 1 rfl rfl)) ?_
    intro a ht
    refine wpl rfl rfl ht (ev_cmp ht rfl rfl rfl rfl) ?_
    intro a ht
    refine wpList_nil ?_
    refine then_normal ?_
    by_cases h6 : t5.2 > 20000
    · replace H := ite_yes h6 H
      refine wpc_yes ht rfl (decide_eq_true h6) ?_
      refine wp_seq ?_
      refine wpr ?_
      refine wpl rfl rfl ht (ev_assign ht rfl rfl) ?_
      intro a ht
      refine wpl rfl rfl ht (ev_assign ht rfl rfl) ?_
      intro a ht
      refine wpList_nil ?_
      refine then_normal ?_
      refine wp_ret ?_
      refine then_ret ?_
      have hres := ht.res (P := Try.prog) (w := w) (rs := [.tmp 2, .tmp 3]) (vs := [.int .i64 0, .int .i64 3]) (.tmp rfl (.tmp rfl .nil))
      obtain rfl := Option.some.inj H
      exact leave ht rfl hres ⟨rfl, ((hm.pick [] rfl (by decide)).pickφ [] rfl).post fun _ h => h⟩
    · replace H := ite_no h6 H
      refine wpc_no ht rfl (decide_eq_false h6) ?_
      refine wp_skip ?_
      refine then_normal ?_
      refine wp_seq ?_
      refine wpr ?_
      refine wpl rfl rfl ht (ev_load ht rfl rfl sc_2 (hm.blk_cell 1 rfl rfl)) ?_
      intro a ht
      refine wpl rfl rfl ht (ev_assign ht rfl rfl) ?_
      intro a ht
      refine wpl rfl rfl ht (ev_assign ht rfl rfl) ?_
      intro a ht
      refine wpList_nil ?_
      refine then_normal ?_
      refine wp_ret ?_
      have hres := ht.res (P := Try.prog) (w := w) (rs := [.tmp 2, .tmp 3]) (vs := [.int .i64 t5.2, .int .i64 0]) (.tmp rfl (.tmp rfl .nil))
      obtain rfl := Option.some.inj H
      exact leave ht rfl hres ⟨rfl, ((hm.pick [] rfl (by decide)).pickφ [] rfl).post fun _ h => h⟩

/-! ### laws_FnExactCountAutomorphisms: function 3 (loop.example/g01362/laws.FnExactCountAutomorphisms) -/
def laws_FnExactCountAutomorphisms.f (k : Nat) (aX : Col) : Option (Bool) := (laws_toColouring.f k aX).bind fun t2 => (spec_CountAutomorphisms.f k t2).bind fun t3 => (laws_toColouring.f k aX).bind fun t4 => (impl_CountAutomorphisms.f k t4).bind fun t5 => if t5.1 ≠ t3.1 then (some false) else (if t5.2 ≠ t3.2 then (some false) else (some true))
set_option maxRecDepth 100000 in
set_option maxHeartbeats 20000000 in
theorem laws_FnExactCountAutomorphisms.calls (k : Nat) (X : List Nat) (w0 : World)  (aX : Col) (r : Bool)
    (hp : Pre X w0 [] []) (H : laws_FnExactCountAutomorphisms.f k aX = some r) :
    Calls Try.prog 3 [.agg (Col.cells aX).toArray].toArray w0 (Ret fun v w => v = .bool r ∧ Post X (fps []) w0 [] [] w) := by
  unfold laws_FnExactCountAutomorphisms.f at H
  refine enterM (n := 27) hp Try.func3 rfl rfl (Nat.le_of_ble_eq_true rfl) fun a w ht hm => ?_
  refine wp_seq ?_
  refine wpr ?_
  refine wpl_box rfl rfl ht hm rfl rfl rfl ?_
  intro b1 a ht w hm
  refine wpl rfl rfl ht (ev_assign ht rfl rfl) ?_
  intro a ht
  refine wpList_nil ?_
  refine then_normal ?_
  refine wp_seq ?_
  refine wpr ?_
  refine wpl rfl rfl ht (ev_load_agg ht rfl rfl (ag_24.trans (by first | rw [Col.length_cells] | rfl)) (hm.blk_all 0 rfl)) ?_
  intro a ht
  obtain ⟨t2, et2, H⟩ := bind_get H
  have hcall := laws_toColouring.calls k _ _ aX _ ((fun (hq : Ms _ _ _ ([] ++ [.blk b1 24 (Col.cells aX)]) _ _) => hq.lend (φp := []) (allRO_nil)) (hm.pick (own' := [] ++ [.blk b1 24 (Col.cells aX)]) [0] rfl (by decide))) et2
  refine wpl_call _ rfl rfl ht rfl rfl rfl rfl can_8 hcall ?_
  clear hcall
  rintro _ w ⟨rfl, hpost⟩ a ht
  replace hm := (hm.pick (own' := [] ++ [.blk b1 24 (Col.cells aX)]) [0] rfl (by decide)).backL hpost
  clear hpost
  obtain ⟨t3, et3, H⟩ := bind_get H
  have hcall := spec_CountAutomorphisms.calls k _ _ t2 _ ((fun (hq : Ms _ _ _ ([] ++ [.blk b1 24 (Col.cells aX)]) _ _) => hq.lend (φp := []) (allRO_nil)) (hm.pick (own' := [] ++ [.blk b1 24 (Col.cells aX)]) [0] rfl (by decide))) et3
  refine wpl_call _ rfl rfl ht rfl rfl rfl rfl can_7 hcall ?_
  clear hcall
  rintro _ w ⟨rfl, hpost⟩ a ht
  replace hm := (hm.pick (own' := [] ++ [.blk b1 24 (Col.cells aX)]) [0] rfl (by decide)).backL hpost
  clear hpost
  refine wpl rfl rfl ht (ev_move ht rfl rfl) ?_
  intro a ht
  refine wpl rfl rfl ht (ev_extract ht rfl rfl rfl) ?_
  intro a ht
  refine wpl rfl rfl ht (ev_extract ht rfl rfl rfl) ?_
  intro a ht
  refine wpl rfl rfl ht (ev_assign ht rfl rfl) ?_
  intro a ht
  refine wpl rfl rfl ht (ev_assign ht rfl rfl) ?_
  intro a ht
  refine wpList_nil ?_
  refine then_normal ?_
  refine wp_seq ?_
  refine wpr ?_
  refine wpl rfl rfl ht (ev_load_agg ht rfl rfl (ag_24.trans (by first | rw [Col.length_cells] | rfl)) (hm.blk_all 0 rfl)) ?_
  intro a ht
  obtain ⟨t4, et4, H⟩ := bind_get H
  have hcall := laws_toColouring.calls k _ _ aX _ ((fun (hq : Ms _ _ _ ([] ++ [.blk b1 24 (Col.cells aX)]) _ _) => hq.lend (φp := []) (allRO_nil)) (hm.pick (own' := [] ++ [.blk b1 24 (Col.cells aX)]) [0] rfl (by decide))) et4
  refine wpl_call _ rfl rfl ht rfl rfl rfl rfl can_8 hcall ?_
  clear hcall
  rintro _ w ⟨rfl, hpost⟩ a ht
  replace hm := (hm.pick (own' := [] ++ [.blk b1 24 (Col.cells aX)]) [0] rfl (by decide)).backL hpost
  clear hpost
  obtain ⟨t5, et5, H⟩ := bind_get H
  have hcall := impl_CountAutomorphisms.calls k _ _ t4 _ ((fun (hq : Ms _ _ _ ([] ++ [.blk b1 24 (Col.cells aX)]) _ _) => hq.lend (φp := []) (allRO_nil)) (hm.pick (own' := [] ++ [.blk b1 24 (Col.cells aX)]) [0] rfl (by decide))) et5
  refine wpl_call _ rfl rfl ht rfl rfl rfl rfl can_9 hcall ?_
  clear hcall
  rintro _ w ⟨rfl, hpost⟩ a ht
  replace hm := (hm.pick (own' := [] ++ [.blk b1 24 (Col.cells aX)]) [0] rfl (by decide)).backL hpost
  clear hpost
  refine wpl rfl rfl ht (ev_move ht rfl rfl) ?_
  intro a ht
  refine wpl rfl rfl ht (ev_extract ht rfl rfl rfl) ?_
  intro a ht
  refine wpl rfl rfl ht (ev_extract ht rfl rfl rfl) ?_
  intro a ht
  refine wpl rfl rfl ht (ev_assign ht rfl rfl) ?_
  intro a ht
  refine wpl rfl rfl ht (ev_assign ht rfl rfl) ?_
  intro a ht
  refine wpList_nil ?_
  refine then_normal ?_
  refine wp_seq ?_
  refine wp_seq ?_
  refine wpr ?_
  refine wpl rfl rfl ht (ev_move ht rfl rfl) ?_
  intro a ht
  refine wpl rfl rfl ht (ev_move ht rfl rfl) ?_
  intro a ht
  refine wpl rfl rfl ht (ev_cmp ht rfl rfl rfl rfl) ?_
  intro a ht
  refine wpl rfl rfl ht (ev_move ht rfl rfl) ?_
  intro a ht
  by_cases h6 : t5.1 ≠ t3.1
  · replace H := ite_yes h6 H
    refine wpl_no rfl rfl ht rfl (by rw [(decide_eq_true h6)]; decide) ?_
    intro a ht
    refine wpl_no rfl rfl ht rfl (by rw [(decide_eq_true h6)]; decide) ?_
    intro a ht
    refine wpl_no rfl rfl ht rfl (by rw [(decide_eq_true h6)]; decide) ?_
    intro a ht
    refine wpl rfl rfl ht (ev_pick_yes ht rfl rfl (decide_eq_true h6) rfl) ?_
    intro a ht
    refine wpList_nil ?_
    refine then_normal ?_
    refine wpc_yes ht rfl rfl ?_
    refine wp_seq ?_
    refine wpr ?_
    refine wpl rfl rfl ht (ev_assign ht rfl rfl) ?_
    intro a ht
    refine wpList_nil ?_
    refine then_normal ?_
    refine wp_ret ?_
    refine then_ret ?_
    have hres := ht.res (P := Try.prog) (w := w) (rs := [.tmp 2]) (vs := [.bool false]) (.tmp rfl .nil)
    obtain rfl := Option.some.inj H
    exact leave ht rfl hres ⟨rfl, ((hm.pick [] rfl (by decide)).pickφ [] rfl).post fun _ h => h⟩
  · replace H := ite_no h6 H
    refine wpl_yes rfl ht rfl ((decide_eq_false h6)) ?_
    refine wpl rfl rfl ht (ev_move ht rfl rfl) ?_
    intro a ht
    refine wpl_yes rfl ht rfl ((decide_eq_false h6)) ?_
    refine wpl rfl rfl ht (ev_move ht rfl rfl) ?_
    intro a ht
    refine wpl_yes rfl ht rfl ((decide_eq_false h6)) ?_
    refine wpl rfl rfl ht (ev_cmp ht rfl rfl rfl rfl) ?_
    intro a ht
    refine wpl rfl rfl ht (ev_pick_no ht rfl rfl (decide_eq_false h6) rfl) ?_
    intro a ht
    refine wpList_nil ?_
    refine then_normal ?_
    by_cases h7 : t5.2 ≠ t3.2
    · replace H := ite_yes h7 H
      refine wpc_yes ht rfl (decide_eq_true h7) ?_
      refine wp_seq ?_
      refine wpr ?_
      refine wpl rfl rfl ht (ev_assign ht rfl rfl) ?_
      intro a ht
      refine wpList_nil ?_
      refine then_normal ?_
      refine wp_ret ?_
      refine then_ret ?_
      have hres := ht.res (P := Try.prog) (w := w) (rs := [.tmp 2]) (vs := [.bool false]) (.tmp rfl .nil)
      obtain rfl := Option.some.inj H
      exact leave ht rfl hres ⟨rfl, ((hm.pick [] rfl (by decide)).pickφ [] rfl).post fun _ h => h⟩
    · replace H := ite_no h7 H
      refine wpc_no ht rfl (decide_eq_false h7) ?_
      refine wp_skip ?_
      refine then_normal ?_
      refine wp_seq ?_
      refine wpr ?_
      refine wpl rfl rfl ht (ev_assign ht rfl rfl) ?_
      intro a ht
      refine wpList_nil ?_
      refine then_normal ?_
      refine wp_ret ?_
      have hres := ht.res (P := Try.prog) (w := w) (rs := [.tmp 2]) (vs := [.bool true]) (.tmp rfl .nil)
      obtain rfl := Option.some.inj H
      exact leave ht rfl hres ⟨rfl, ((hm.pick [] rfl (by decide)).pickφ [] rfl).post fun _ h => h⟩

end Go.Proofs.Ytbgniopmmankdaa.G
