/- What each Go function computes, as a Lean function, and the proof that it does: written by a program of this session (wip/gen), part 1. -/
import Derived.Test.YtbgniopmmankdaaGFnExactPointOrbits0
namespace Go.Proofs.Ytbgniopmmankdaa.G
open Go Go.RowKit Go.Proofs.Ytbgniopmmankdaa.K
set_option linter.unusedVariables false
set_option linter.unusedSimpArgs false

/-! ### laws_toByteA136: function 22 (loop.example/g01362/laws.toByteA136) -/
def laws_toByteA136.l0 : Nat → (Nat → Int) → (Nat → Int) → Int → Option ((Nat → Int))
  | 0, _, _, _ => none
  | q4 + 1, a_, es0_1, xs0_2 => if xs0_2 < 136 then ((getB 136 a_ xs0_2).bind fun t6 => (getB 136 es0_1 xs0_2).bind fun t7 => laws_toByteA136.l0 q4 a_ (upd es0_1 xs0_2.toNat t6) (w64 (xs0_2 + 1))) else (some es0_1)
def laws_toByteA136.f (k : Nat) (a_ : Nat → Int) : Option ((Nat → Int)) := laws_toByteA136.l0 k a_ (fun _ => 0) 0
set_option maxRecDepth 100000 in
set_option maxHeartbeats 20000000 in
theorem laws_toByteA136.calls (k : Nat) (X : List Nat) (w0 : World)  (a_ : Nat → Int) (r : (Nat → Int))
    (hp : Pre X w0 [] []) (H : laws_toByteA136.f k a_ = some r) :
    Calls Try.prog 22 [.agg (bytesC 136 a_).toArray].toArray w0 (Ret fun v w => v = .agg (bytesC 136 r).toArray ∧ Post X (fps []) w0 [] [] w) := by
  unfold laws_toByteA136.f at H
  refine enterM (n := 15) hp Try.func22 rfl rfl (Nat.le_of_ble_eq_true rfl) fun a w ht hm => ?_
  refine wp_seq ?_
  refine wpr ?_
  refine wpl_box rfl rfl ht hm rfl rfl rfl ?_
  intro b1 a ht w hm
  refine wpl_alloc rfl rfl ht hm rfl zo_22 ?_
  intro b2 a ht w hm
  refine wpList_nil ?_
  refine then_normal ?_
  refine wp_seq ?_
  refine wpr ?_
  refine wpl_alloc rfl rfl ht hm rfl zo_22 ?_
  intro b3 a ht w hm
  refine wpList_nil ?_
  refine then_normal ?_
  refine wp_seq ?_
  refine wp_seq ?_
  refine wpr ?_
  refine wpl rfl rfl ht (ev_assign ht rfl rfl) ?_
  intro a ht
  refine wpList_nil ?_
  refine then_normal ?_
  refine wp_block ?_
  refine wpLoop (fun q a w => ∃ (es0_1 : Nat → Int) (xs0_2 : Int), laws_toByteA136.l0 q a_ es0_1 xs0_2 = some r ∧ q ≤ k ∧ Tm 15 [(1, .pointer (some ⟨b1, 0, none⟩)), (2, .pointer (some ⟨b2, 0, none⟩)), (3, .pointer (some ⟨b3, 0, none⟩)), (4, .int .i64 xs0_2)] a ∧ Ms X (fps []) w0 [.blk b3 22 (bytesC 136 es0_1), .blk b2 22 (bytesC 136 (fun _ => 0)), .blk b1 22 (bytesC 136 a_)] [] w) (k0 := k) ⟨(fun _ => 0), 0, H, Nat.le_refl _, ht.sub ⟨rfl, rfl, rfl, rfl, trivial⟩, (hm.pick [0, 1, 2] rfl (by decide)).pickφ [] rfl⟩ ?_
  clear H ht hm
  intro q4 a w hJ
  obtain ⟨es0_1, xs0_2, H, hqq4, ht, hm⟩ := hJ
  cases q4 with
  | zero => cases H
  | succ q4 =>
  rw [laws_toByteA136.l0] at H
  refine wp_seq ?_
  refine wp_seq ?_
  refine wpr ?_
  refine wpl rfl rfl ht (ev_move ht rfl rfl) ?_
  intro a ht
  refine wpl rfl rfl ht (ev_cmp ht rfl rfl rfl rfl) ?_
  intro a ht
  refine wpList_nil ?_
  refine then_normal ?_
  by_cases h5 : xs0_2 < 136
  · replace H := ite_yes h5 H
    refine wpc_yes ht rfl (decide_eq_true h5) ?_
    refine wp_skip ?_
    refine then_normal ?_
    refine wp_seq ?_
    refine wp_block ?_
    refine wpr ?_
    refine wpl rfl rfl ht (ev_move ht rfl rfl) ?_
    intro a ht
    refine wpl rfl rfl ht (ev_move ht rfl rfl) ?_
    intro a ht
    obtain ⟨t6, et6, H⟩ := bind_get H
    refine wpl rfl rfl ht (ev_indexAddr_arr ht rfl rfl rfl ar_22 (getB_lo et6) (getB_hi et6)) ?_
    intro a ht
    refine wpl rfl rfl ht (ev_load ht rfl rfl sc_5 (hm.blk_cell 2 rfl (bytes_get et6))) ?_
    intro a ht
    obtain ⟨t7, et7, H⟩ := bind_get H
    refine wpl rfl rfl ht (ev_indexAddr_arr ht rfl rfl rfl ar_22 (getB_lo et7) (getB_hi et7)) ?_
    intro a ht
    refine wpl_store_bytes 0 rfl rfl ht hm rfl rfl rfl sz1_5 rfl et7 ?_
    intro a ht w hm
    refine wpList_nil ?_
    refine blk_normal ?_
    refine then_normal ?_
    refine wpr ?_
    refine wpl rfl rfl ht (ev_move ht rfl rfl) ?_
    intro a ht
    refine wpl rfl rfl ht (ev_arith ht rfl rfl rfl rfl) ?_
    intro a ht
    refine wpl rfl rfl ht (ev_assign ht rfl rfl) ?_
    intro a ht
    refine wpList_nil ?_
    exact then_normal ⟨q4, by omega, (upd es0_1 xs0_2.toNat t6), (w64 (xs0_2 + 1)), H, by omega, ht.sub ⟨rfl, rfl, rfl, rfl, trivial⟩, (hm.pick [0, 1, 2] rfl (by decide)).pickφ [] rfl⟩
  · replace H := ite_no h5 H
    refine wpc_no ht rfl (decide_eq_false h5) ?_
    refine wp_exit ?_
    refine then_exit ?_
    refine then_exit ?_
    refine blk_hit ?_
    refine then_normal ?_
    refine wp_seq ?_
    refine wpr ?_
    refine wpl rfl rfl ht (ev_load_agg ht rfl rfl (ag_22.trans (by first | rw [length_bytesC] | rfl)) (hm.blk_all 0 rfl)) ?_
    intro a ht
    refine wpl_store_whole 1 rfl rfl ht hm rfl rfl rfl (szn_22.trans (by first | rw [length_bytesC] | rfl)) rfl (by simp only [length_bytesC]) (bytesC_one _ _) ?_
    intro a ht w hm
    refine wpList_nil ?_
    refine then_normal ?_
    refine wp_ret ?_
    have hres := ht.res (P := Try.prog) (w := w) (rs := [.cell 2 22]) (vs := [.agg (bytesC 136 es0_1).toArray]) (.agg rfl (ag_22.trans (by first | rw [length_bytesC] | rfl)) (hm.blk_all 1 rfl) .nil)
    obtain rfl := Option.some.inj H
    exact leave ht rfl hres ⟨rfl, ((hm.pick [] rfl (by decide)).pickφ [] rfl).post fun _ h => h⟩

/-! ### laws_toColouring: function 8 (loop.example/g01362/laws.toColouring) -/
def laws_toColouring.f (k : Nat) (a_ : Col) : Option (Col) := (laws_toByteA136.f k a_.e).bind fun t4 => some (Col.setEs (Col.setK (Col.setP Col.zero a_.p) a_.k) t4)
set_option maxRecDepth 100000 in
set_option maxHeartbeats 20000000 in
theorem laws_toColouring.calls (k : Nat) (X : List Nat) (w0 : World)  (a_ : Col) (r : Col)
    (hp : Pre X w0 [] []) (H : laws_toColouring.f k a_ = some r) :
    Calls Try.prog 8 [.agg (Col.cells a_).toArray].toArray w0 (Ret fun v w => v = .agg (Col.cells r).toArray ∧ Post X (fps []) w0 [] [] w) := by
  unfold laws_toColouring.f at H
  refine enterM (n := 15) hp Try.func8 rfl rfl (Nat.le_of_ble_eq_true rfl) fun a w ht hm => ?_
  refine wp_seq ?_
  refine wpr ?_
  refine wpl_box rfl rfl ht hm rfl rfl rfl ?_
  intro b1 a ht w hm
  refine wpl_alloc rfl rfl ht hm rfl zo_27 ?_
  intro b2 a ht w hm
  refine wpList_nil ?_
  refine then_normal ?_
  refine wp_seq ?_
  refine wpr ?_
  refine wpl_alloc rfl rfl ht hm rfl zo_27 ?_
  intro b3 a ht w hm
  refine wpList_nil ?_
  refine then_normal ?_
  refine wp_seq ?_
  refine wpr ?_
  refine wpl rfl rfl ht (ev_fieldAddr ht rfl rfl fo_24_0) ?_
  intro a ht
  refine wpl rfl rfl ht (ev_load ht rfl rfl sc_2 (hm.blk_cell 2 rfl rfl)) ?_
  intro a ht
  refine wpl rfl rfl ht (ev_fieldAddr ht rfl rfl fo_27_0) ?_
  intro a ht
  refine wpl_store_blk 0 rfl rfl ht hm rfl rfl rfl sz1_2 rfl rfl rfl ?_
  intro a ht w hm
  refine wpList_nil ?_
  refine then_normal ?_
  refine wp_seq ?_
  refine wpr ?_
  refine wpl rfl rfl ht (ev_fieldAddr ht rfl rfl fo_24_1) ?_
  intro a ht
  refine wpl rfl rfl ht (ev_load ht rfl rfl sc_2 (hm.blk_cell 2 rfl rfl)) ?_
  intro a ht
  refine wpl rfl rfl ht (ev_fieldAddr ht rfl rfl fo_27_1) ?_
  intro a ht
  refine wpl_store_blk 0 rfl rfl ht hm rfl rfl rfl sz1_2 rfl rfl rfl ?_
  intro a ht w hm
  refine wpList_nil ?_
  refine then_normal ?_
  refine wp_seq ?_
  refine wpr ?_
  refine wpl rfl rfl ht (ev_fieldAddr ht rfl rfl fo_24_2) ?_
  intro a ht
  refine wpl rfl rfl ht (ev_load_agg ht rfl rfl (ag_22.trans (by first | rw [length_bytesC] | rfl)) (hm.col_edges 2 rfl)) ?_
  intro a ht
  obtain ⟨t4, et4, H⟩ := bind_get H
  have hcall := laws_toByteA136.calls k _ _ a_.e _ ((fun (hq : Ms _ _ _ ([] ++ [.blk b3 27 (Col.cells (Col.setK (Col.setP Col.zero a_.p) a_.k)), .blk b2 27 (Col.cells Col.zero), .blk b1 24 (Col.cells a_)]) _ _) => hq.lend (φp := []) (allRO_nil)) (hm.pick (own' := [] ++ [.blk b3 27 (Col.cells (Col.setK (Col.setP Col.zero a_.p) a_.k)), .blk b2 27 (Col.cells Col.zero), .blk b1 24 (Col.cells a_)]) [0, 1, 2] rfl (by decide))) et4
  refine wpl_call _ rfl rfl ht rfl rfl rfl rfl can_22 hcall ?_
  clear hcall
  rintro _ w ⟨rfl, hpost⟩ a ht
  replace hm := (hm.pick (own' := [] ++ [.blk b3 27 (Col.cells (Col.setK (Col.setP Col.zero a_.p) a_.k)), .blk b2 27 (Col.cells Col.zero), .blk b1 24 (Col.cells a_)]) [0, 1, 2] rfl (by decide)).backL hpost
  clear hpost
  refine wpl rfl rfl ht (ev_fieldAddr ht rfl rfl fo_27_2) ?_
  intro a ht
  refine wpl_store_edges 0 rfl rfl ht hm rfl rfl rfl szn_22 rfl ?_
  intro a ht w hm
  refine wpList_nil ?_
  refine then_normal ?_
  refine wp_seq ?_
  refine wpr ?_
  refine wpl rfl rfl ht (ev_load_agg ht rfl rfl (ag_27.trans (by first | rw [Col.length_cells] | rfl)) (hm.blk_all 0 rfl)) ?_
  intro a ht
  refine wpl_store_whole 1 rfl rfl ht hm rfl rfl rfl (szn_27.trans (by first | rw [Col.length_cells] | rfl)) rfl (by simp only [Col.length_cells]) (Col.cells_one _) ?_
  intro a ht w hm
  refine wpList_nil ?_
  refine then_normal ?_
  refine wp_ret ?_
  have hres := ht.res (P := Try.prog) (w := w) (rs := [.cell 2 27]) (vs := [.agg (Col.cells (Col.setEs (Col.setK (Col.setP Col.zero a_.p) a_.k) t4)).toArray]) (.agg rfl (ag_27.trans (by first | rw [Col.length_cells] | rfl)) (hm.blk_all 1 rfl) .nil)
  obtain rfl := Option.some.inj H
  exact leave ht rfl hres ⟨rfl, ((hm.pick [] rfl (by decide)).pickφ [] rfl).post fun _ h => h⟩

/-! ### spec_l01In: function 43 (loop.example/g01362/spec.l01In) -/
def spec_l01In.f (n_ : Int) (low : Int) (high : Int) : Option (Bool) := if n_ ≥ low then (some (decide (n_ ≤ high))) else (some false)
set_option maxRecDepth 100000 in
set_option maxHeartbeats 20000000 in
theorem spec_l01In.calls (X : List Nat) (w0 : World)  (n_ : Int) (low : Int) (high : Int) (r : Bool)
    (hp : Pre X w0 [] []) (H : spec_l01In.f n_ low high = some r) :
    Calls Try.prog 43 [.int .i64 n_, .int .i64 low, .int .i64 high].toArray w0 (Ret fun v w => v = .bool r ∧ Post X (fps []) w0 [] [] w) := by
  unfold spec_l01In.f at H
  refine enterM (n := 15) hp Try.func43 rfl rfl (Nat.le_of_ble_eq_true rfl) fun a w ht hm => ?_
  refine wp_seq ?_
  refine wpr ?_
  refine wpl rfl rfl ht (ev_assign ht rfl rfl) ?_
  intro a ht
  refine wpList_nil ?_
  refine then_normal ?_
  refine wp_seq ?_
  refine wpr ?_
  refine wpl rfl rfl ht (ev_move ht rfl rfl) ?_
  intro a ht
  refine wpl rfl rfl ht (ev_move ht rfl rfl) ?_
  intro a ht
  refine wpl rfl rfl ht (ev_cmp ht rfl rfl rfl rfl) ?_
  intro a ht
  refine wpl rfl rfl ht (ev_move ht rfl rfl) ?_
  intro a ht
  by_cases h1 : n_ ≥ low
  · replace H := ite_yes h1 H
    refine wpl_yes rfl ht rfl ((decide_eq_true h1)) ?_
    refine wpl rfl rfl ht (ev_move ht rfl rfl) ?_
    intro a ht
    refine wpl_yes rfl ht rfl ((decide_eq_true h1)) ?_
    refine wpl rfl rfl ht (ev_move ht rfl rfl) ?_
    intro a ht
    refine wpl_yes rfl ht rfl ((decide_eq_true h1)) ?_
    refine wpl rfl rfl ht (ev_cmp ht rfl rfl rfl rfl) ?_
    intro a ht
    refine wpl rfl rfl ht (ev_pick_yes ht rfl rfl (decide_eq_true h1) rfl) ?_
    intro a ht
    refine wpl rfl rfl ht (ev_assign ht rfl rfl) ?_
    intro a ht
    refine wpList_nil ?_
    refine then_normal ?_
    refine wp_ret ?_
    have hres := ht.res (P := Try.prog) (w := w) (rs := [.tmp 6]) (vs := [.bool (decide (n_ ≤ high))]) (.tmp rfl .nil)
    obtain rfl := Option.some.inj H
    exact leave ht rfl hres ⟨rfl, ((hm.pick [] rfl (by decide)).pickφ [] rfl).post fun _ h => h⟩
  · replace H := ite_no h1 H
    refine wpl_no rfl rfl ht rfl (by rw [(decide_eq_false h1)]; decide) ?_
    intro a ht
    refine wpl_no rfl rfl ht rfl (by rw [(decide_eq_false h1)]; decide) ?_
    intro a ht
    refine wpl_no rfl rfl ht rfl (by rw [(decide_eq_false h1)]; decide) ?_
    intro a ht
    refine wpl rfl rfl ht (ev_pick_no ht rfl rfl (decide_eq_false h1) rfl) ?_
    intro a ht
    refine wpl rfl rfl ht (ev_assign ht rfl rfl) ?_
    intro a ht
    refine wpList_nil ?_
    refine then_normal ?_
    refine wp_ret ?_
    have hres := ht.res (P := Try.prog) (w := w) (rs := [.tmp 6]) (vs := [.bool false]) (.tmp rfl .nil)
    obtain rfl := Option.some.inj H
    exact leave ht rfl hres ⟨rfl, ((hm.pick [] rfl (by decide)).pickφ [] rfl).post fun _ h => h⟩

/-! ### spec_l01Is: function 20 (loop.example/g01362/spec.l01Is) -/
def spec_l01Is.l0 : Nat → Col → Int → Option (Bool)
  | 0, _, _ => none
  | q6 + 1, x, xs0_1 => if xs0_1 < 136 then (if xs0_1 < (w64 (Int.tdiv (w64 (x.p * (w64 (x.p - 1)))) 2)) then ((getB 136 x.e xs0_1).bind fun t9 => if (w64 t9) ≥ x.k then (some false) else (spec_l01Is.l0 q6 x (w64 (xs0_1 + 1)))) else ((getB 136 x.e xs0_1).bind fun t11 => if t11 ≠ 0 then (some false) else (spec_l01Is.l0 q6 x (w64 (xs0_1 + 1))))) else (some true)
def spec_l01Is.f (k : Nat) (x : Col) : Option (Bool) := (spec_l01In.f x.p 1 17).bind fun t2 => if t2 = true then ((spec_l01In.f x.k 1 4).bind fun t4 => if t4 = true then (spec_l01Is.l0 k x 0) else (some false)) else (some false)
set_option maxRecDepth 100000 in
set_option maxHeartbeats 20000000 in
theorem spec_l01Is.calls (k : Nat) (X : List Nat) (w0 : World)  (x : Col) (r : Bool)
    (hp : Pre X w0 [] []) (H : spec_l01Is.f k x = some r) :
    Calls Try.prog 20 [.agg (Col.cells x).toArray].toArray w0 (Ret fun v w => v = .bool r ∧ Post X (fps []) w0 [] [] w) := by
  unfold spec_l01Is.f at H
  refine enterM (n := 51) hp Try.func20 rfl rfl (Nat.le_of_ble_eq_true rfl) fun a w ht hm => ?_
  refine wp_seq ?_
  refine wpr ?_
  refine wpl_box rfl rfl ht hm rfl rfl rfl ?_
  intro b1 a ht w hm
  refine wpl rfl rfl ht (ev_assign ht rfl rfl) ?_
  intro a ht
  refine wpList_nil ?_
  refine then_normal ?_
  refine wp_seq ?_
  refine wp_seq ?_
  refine wpr ?_
  refine wpl rfl rfl ht (ev_fieldAddr ht rfl rfl fo_27_0) ?_
  intro a ht
  refine wpl rfl rfl ht (ev_load ht rfl rfl sc_2 (hm.blk_cell 0 rfl rfl)) ?_
  intro a ht
  obtain ⟨t2, et2, H⟩ := bind_get H
  have hcall := spec_l01In.calls _ _ x.p 1 17 _ ((fun (hq : Ms _ _ _ ([] ++ [.blk b1 27 (Col.cells x)]) _ _) => hq.lend (φp := []) (allRO_nil)) (hm.pick (own' := [] ++ [.blk b1 27 (Col.cells x)]) [0] rfl (by decide))) et2
  refine wpl_call _ rfl rfl ht rfl rfl rfl rfl can_43 hcall ?_
  clear hcall
  rintro _ w ⟨rfl, hpost⟩ a ht
  replace hm := (hm.pick (own' := [] ++ [.blk b1 27 (Col.cells x)]) [0] rfl (by decide)).backL hpost
  clear hpost
  refine wpl rfl rfl ht (ev_not ht rfl rfl) ?_
  intro a ht
  refine wpl rfl rfl ht (ev_move ht rfl rfl) ?_
  intro a ht
  by_cases h3 : t2 = true
  · replace H := ite_yes h3 H
    refine wpl_yes rfl ht rfl ((not_t h3)) ?_
    refine wpl rfl rfl ht (ev_fieldAddr ht rfl rfl fo_27_1) ?_
    intro a ht
    refine wpl_yes rfl ht rfl ((not_t h3)) ?_
    refine wpl rfl rfl ht (ev_load ht rfl rfl sc_2 (hm.blk_cell 0 rfl rfl)) ?_
    intro a ht
    refine wpl_yes rfl ht rfl ((not_t h3)) ?_
    obtain ⟨t4, et4, H⟩ := bind_get H
    have hcall := spec_l01In.calls _ _ x.k 1 4 _ ((fun (hq : Ms _ _ _ ([] ++ [.blk b1 27 (Col.cells x)]) _ _) => hq.lend (φp := []) (allRO_nil)) (hm.pick (own' := [] ++ [.blk b1 27 (Col.cells x)]) [0] rfl (by decide))) et4
    refine wpl_call _ rfl rfl ht rfl rfl rfl rfl can_43 hcall ?_
    clear hcall
    rintro _ w ⟨rfl, hpost⟩ a ht
    replace hm := (hm.pick (own' := [] ++ [.blk b1 27 (Col.cells x)]) [0] rfl (by decide)).backL hpost
    clear hpost
    refine wpl_yes rfl ht rfl ((not_t h3)) ?_
    refine wpl rfl rfl ht (ev_not ht rfl rfl) ?_
    intro a ht
    refine wpl rfl rfl ht (ev_pick_no ht rfl rfl (not_t h3) rfl) ?_
    intro a ht
    refine wpList_nil ?_
    refine then_normal ?_
    by_cases h5 : t4 = true
    · replace H := ite_yes h5 H
      refine wpc_no ht rfl (not_t h5) ?_
      refine wp_skip ?_
      refine then_normal ?_
      refine wp_seq ?_
      refine wpr ?_
      refine wpl rfl rfl ht (ev_fieldAddr ht rfl rfl fo_27_0) ?_
      intro a ht
      refine wpl rfl rfl ht (ev_load ht rfl rfl sc_2 (hm.blk_cell 0 rfl rfl)) ?_
      intro a ht
      refine wpl rfl rfl ht (ev_fieldAddr ht rfl rfl fo_27_0) ?_
      intro a ht
      refine wpl rfl rfl ht (ev_load ht rfl rfl sc_2 (hm.blk_cell 0 rfl rfl)) ?_
      intro a ht
      refine wpl rfl rfl ht (ev_arith ht rfl rfl rfl rfl) ?_
      intro a ht
      refine wpl rfl rfl ht (ev_arith ht rfl rfl rfl rfl) ?_
      intro a ht
      refine wpl rfl rfl ht (ev_quo ht rfl rfl rfl (by decide)) ?_
      intro a ht
      refine wpl rfl rfl ht (ev_assign ht rfl rfl) ?_
      intro a ht
      refine wpList_nil ?_
      refine then_normal ?_
      refine wp_seq ?_
      refine wp_seq ?_
      refine wpr ?_
      refine wpl rfl rfl ht (ev_assign ht rfl rfl) ?_
      intro a ht
      refine wpList_nil ?_
      refine then_normal ?_
      refine wp_block ?_
      refine wpLoop (fun q a w => ∃ (xs0_1 : Int), spec_l01Is.l0 q x xs0_1 = some r ∧ q ≤ k ∧ Tm 51 [(1, .pointer (some ⟨b1, 0, none⟩)), (2, .bool false), (3, .int .i64 (w64 (Int.tdiv (w64 (x.p * (w64 (x.p - 1)))) 2))), (4, .int .i64 xs0_1)] a ∧ Ms X (fps []) w0 [.blk b1 27 (Col.cells x)] [] w) (k0 := k) ⟨0, H, Nat.le_refl _, ht.sub ⟨rfl, rfl, rfl, rfl, trivial⟩, (hm.pick [0] rfl (by decide)).pickφ [] rfl⟩ ?_
      clear H ht hm
      intro q6 a w hJ
      obtain ⟨xs0_1, H, hqq6, ht, hm⟩ := hJ
      cases q6 with
      | zero => cases H
      | succ q6 =>
      rw [spec_l01Is.l0] at H
      refine wp_seq ?_
      refine wp_seq ?_
      refine wpr ?_
      refine wpl rfl rfl ht (ev_move ht rfl rfl) ?_
      intro a ht
      refine wpl rfl rfl ht (ev_cmp ht rfl rfl rfl rfl) ?_
      intro a ht
      refine wpList_nil ?_
      refine then_normal ?_
      by_cases h7 : xs0_1 < 136
      · replace H := ite_yes h7 H
        refine wpc_yes ht rfl (decide_eq_true h7) ?_
        refine wp_skip ?_
        refine then_normal ?_
        refine wp_seq ?_
        refine wp_block ?_
        refine wp_seq ?_
        refine wph_begin (fun w => Ms X (fps []) w0 [.blk b1 27 (Col.cells x)] [] w) mixed ?_
        replace hm := hm.drew
        have hS : Ms X (fps []) w0 [.blk b1 27 (Col.cells x)] [] w.drew := (hm.pick [0] rfl (by decide)).pickφ [] rfl
        generalize w.drew = w at hm hS ⊢
        refine wph_take (i := 0) rfl (by kernel_rfl) (by kernel_rfl) (by kernel_rfl) (fun _ _ _ h => h) rfl ht hS (wanted_plain rfl) (fun w hm => ev_move ht rfl rfl) ?_
        intro a ht
        refine wph_take (i := 1) rfl (by kernel_rfl) (by kernel_rfl) (by kernel_rfl) (fun _ _ _ h => h) rfl ht hS (wanted_plain rfl) (fun w hm => ev_move ht rfl rfl) ?_
        intro a ht
        refine wph_take (i := 2) rfl (by kernel_rfl) (by kernel_rfl) (by kernel_rfl) (fun _ _ _ h => h) rfl ht hS (wanted_plain rfl) (fun w hm => ev_cmp ht rfl rfl rfl rfl) ?_
        intro a ht
        refine wph_take (i := 3) rfl (by kernel_rfl) (by kernel_rfl) (by kernel_rfl) (fun _ _ _ h => h) rfl ht hS (wanted_plain rfl) (fun w hm => ev_move ht rfl rfl) ?_
        intro a ht
        by_cases h8 : xs0_1 < (w64 (Int.tdiv (w64 (x.p * (w64 (x.p - 1)))) 2))
        · replace H := ite_yes h8 H
          refine wph_take (i := 4) rfl (by kernel_rfl) (by kernel_rfl) (by kernel_rfl) (fun _ _ _ h => h) rfl ht hS (wanted_yes rfl ht rfl ((decide_eq_true h8))) (fun w hm => ev_move ht rfl rfl) ?_
          intro a ht
          refine wph_take (i := 5) rfl (by kernel_rfl) (by kernel_rfl) (by kernel_rfl) (fun _ _ _ h => h) rfl ht hS (wanted_yes rfl ht rfl ((decide_eq_true h8))) (fun w hm => ev_fieldAddr ht rfl rfl fo_27_2) ?_
          intro a ht
          obtain ⟨t9, et9, H⟩ := bind_get H
          refine wph_take (i := 6) rfl (by kernel_rfl) (by kernel_rfl) (by kernel_rfl) (fun _ _ _ h => h) rfl ht hS (wanted_yes rfl ht rfl ((decide_eq_true h8))) (fun w hm => ev_indexAddr_arr ht rfl rfl rfl ar_22 (getB_lo et9) (getB_hi et9)) ?_
          intro a ht
          refine wph_take (i := 7) rfl (by kernel_rfl) (by kernel_rfl) (by kernel_rfl) (fun _ _ _ h => h) rfl ht hS (wanted_yes rfl ht rfl ((decide_eq_true h8))) (fun w hm => ev_load ht rfl rfl sc_5 (hm.blk_cell 0 rfl (Col.get et9))) ?_
          intro a ht
          refine wph_take (i := 8) rfl (by kernel_rfl) (by kernel_rfl) (by kernel_rfl) (fun _ _ _ h => h) rfl ht hS (wanted_yes rfl ht rfl ((decide_eq_true h8))) (fun w hm => ev_convert ht rfl rfl und_5 und_2) ?_
          intro a ht
          refine wph_take (i := 9) rfl (by kernel_rfl) (by kernel_rfl) (by kernel_rfl) (fun _ _ _ h => h) rfl ht hS (wanted_yes rfl ht rfl ((decide_eq_true h8))) (fun w hm => ev_fieldAddr ht rfl rfl fo_27_1) ?_
          intro a ht
          refine wph_take (i := 10) rfl (by kernel_rfl) (by kernel_rfl) (by kernel_rfl) (fun _ _ _ h => h) rfl ht hS (wanted_yes rfl ht rfl ((decide_eq_true h8))) (fun w hm => ev_load ht rfl rfl sc_2 (hm.blk_cell 0 rfl rfl)) ?_
          intro a ht
          refine wph_take (i := 11) rfl (by kernel_rfl) (by kernel_rfl) (by kernel_rfl) (fun _ _ _ h => h) rfl ht hS (wanted_yes rfl ht rfl ((decide_eq_true h8))) (fun w hm => ev_cmp ht rfl rfl rfl rfl) ?_
          intro a ht
          refine wph_take (i := 12) rfl (by kernel_rfl) (by kernel_rfl) (by kernel_rfl) (fun _ _ _ h => h) rfl ht hS (wanted_plain rfl) (fun w hm => ev_pick_yes ht rfl rfl (decide_eq_true h8) rfl) ?_
          intro a ht
          refine wph_take (i := 13) rfl (by kernel_rfl) (by kernel_rfl) (by kernel_rfl) (fun _ _ _ h => h) rfl ht hS (wanted_plain rfl) (fun w hm => ev_move ht rfl rfl) ?_
          intro a ht
          by_cases h10 : (w64 t9) ≥ x.k
          · replace H := ite_yes h10 H
            refine wph_pass (i := 14) rfl (by kernel_rfl) (by kernel_rfl) (by kernel_rfl) (fun _ _ _ h => h) rfl ht hS (wanted_no rfl ht rfl (by rw [(decide_eq_true h10)]; decide)) ?_
            intro a ht
            refine wph_pass (i := 15) rfl (by kernel_rfl) (by kernel_rfl) (by kernel_rfl) (fun _ _ _ h => h) rfl ht hS (wanted_no rfl ht rfl (by rw [(decide_eq_true h10)]; decide)) ?_
            intro a ht
            refine wph_pass (i := 16) rfl (by kernel_rfl) (by kernel_rfl) (by kernel_rfl) (fun _ _ _ h => h) rfl ht hS (wanted_no rfl ht rfl (by rw [(decide_eq_true h10)]; decide)) ?_
            intro a ht
            refine wph_pass (i := 17) rfl (by kernel_rfl) (by kernel_rfl) (by kernel_rfl) (fun _ _ _ h => h) rfl ht hS (wanted_no rfl ht rfl (by rw [(decide_eq_true h10)]; decide)) ?_
            intro a ht
            refine wph_pass (i := 18) rfl (by kernel_rfl) (by kernel_rfl) (by kernel_rfl) (fun _ _ _ h => h) rfl ht hS (wanted_none rfl ht rfl) ?_
            intro a ht
            refine wph_pass (i := 19) rfl (by kernel_rfl) (by kernel_rfl) (by kernel_rfl) (fun _ _ _ h => h) rfl ht hS (wanted_none rfl ht rfl) ?_
            intro a ht
            refine wph_pass (i := 20) rfl (by kernel_rfl) (by kernel_rfl) (by kernel_rfl) (fun _ _ _ h => h) rfl ht hS (wanted_none rfl ht rfl) ?_
            intro a ht
            refine wph_pass (i := 21) rfl (by kernel_rfl) (by kernel_rfl) (by kernel_rfl) (fun _ _ _ h => h) rfl ht hS (wanted_none rfl ht rfl) ?_
            intro a ht
            refine wph_pass (i := 22) rfl (by kernel_rfl) (by kernel_rfl) (by kernel_rfl) (fun _ _ _ h => h) rfl ht hS (wanted_none rfl ht rfl) ?_
            intro a ht
            refine wph_pass (i := 23) rfl (by kernel_rfl) (by kernel_rfl) (by kernel_rfl) (fun _ _ _ h => h) rfl ht hS (wanted_no rfl ht rfl (by rw [(decide_eq_true h10)]; decide)) ?_
            intro a ht
            refine wph_take (i := 24) rfl (by kernel_rfl) (by kernel_rfl) (by kernel_rfl) (fun _ _ _ h => h) rfl ht hS (wanted_plain rfl) (fun w hm => ev_pick_yes ht rfl rfl (decide_eq_true h10) rfl) ?_
            intro a ht
            refine wph_done (by kernel_rfl) ?_
            refine then_normal ?_
            refine wpc_yes ht rfl rfl ?_
            refine wp_seq ?_
            refine wpr ?_
            refine wpl rfl rfl ht (ev_assign ht rfl rfl) ?_
            intro a ht
            refine wpList_nil ?_
            refine then_normal ?_
            refine wp_ret ?_
            refine blk_ret ?_
            refine then_ret ?_
            refine then_ret ?_
            refine blk_ret ?_
            refine then_ret ?_
            have hres := ht.res (P := Try.prog) (w := w) (rs := [.tmp 2]) (vs := [.bool false]) (.tmp rfl .nil)
            obtain rfl := Option.some.inj H
            exact leave ht rfl hres ⟨rfl, ((hm.pick [] rfl (by decide)).pickφ [] rfl).post fun _ h => h⟩
          · replace H := ite_no h10 H
            refine wph_take (i := 14) rfl (by kernel_rfl) (by kernel_rfl) (by kernel_rfl) (fun _ _ _ h => h) rfl ht hS (wanted_yes rfl ht rfl ((decide_eq_false h10))) (fun w hm => ev_move ht rfl rfl) ?_
            intro a ht
            refine wph_take (i := 15) rfl (by kernel_rfl) (by kernel_rfl) (by kernel_rfl) (fun _ _ _ h => h) rfl ht hS (wanted_yes rfl ht rfl ((decide_eq_false h10))) (fun w hm => ev_move ht rfl rfl) ?_
            intro a ht
            refine wph_take (i := 16) rfl (by kernel_rfl) (by kernel_rfl) (by kernel_rfl) (fun _ _ _ h => h) rfl ht hS (wanted_yes rfl ht rfl ((decide_eq_false h10))) (fun w hm => ev_cmp ht rfl rfl rfl rfl) ?_
            intro a ht
            refine wph_take (i := 17) rfl (by kernel_rfl) (by kernel_rfl) (by kernel_rfl) (fun _ _ _ h => h) rfl ht hS (wanted_yes rfl ht rfl ((decide_eq_false h10))) (fun w hm => ev_move ht rfl rfl) ?_
            intro a ht
            refine wph_pass (i := 18) rfl (by kernel_rfl) (by kernel_rfl) (by kernel_rfl) (fun _ _ _ h => h) rfl ht hS (wanted_no rfl ht rfl (by rw [(decide_eq_false (by first | exact h8 | (intro hh; exact h8 hh) | omega))]; decide)) ?_
            intro a ht
            refine wph_pass (i := 19) rfl (by kernel_rfl) (by kernel_rfl) (by kernel_rfl) (fun _ _ _ h => h) rfl ht hS (wanted_no rfl ht rfl (by rw [(decide_eq_false (by first | exact h8 | (intro hh; exact h8 hh) | omega))]; decide)) ?_
            intro a ht
            refine wph_pass (i := 20) rfl (by kernel_rfl) (by kernel_rfl) (by kernel_rfl) (fun _ _ _ h => h) rfl ht hS (wanted_no rfl ht rfl (by rw [(decide_eq_false (by first | exact h8 | (intro hh; exact h8 hh) | omega))]; decide)) ?_
            intro a ht
            refine wph_pass (i := 21) rfl (by kernel_rfl) (by kernel_rfl) (by kernel_rfl) (fun _ _ _ h => h) rfl ht hS (wanted_no rfl ht rfl (by rw [(decide_eq_false (by first | exact h8 | (intro hh; exact h8 hh) | omega))]; decide)) ?_
            intro a ht
            refine wph_pass (i := 22) rfl (by kernel_rfl) (by kernel_rfl) (by kernel_rfl) (fun _ _ _ h => h) rfl ht hS (wanted_no rfl ht rfl (by rw [(decide_eq_false (by first | exact h8 | (intro hh; exact h8 hh) | omega))]; decide)) ?_
            intro a ht
            refine wph_take (i := 23) rfl (by kernel_rfl) (by kernel_rfl) (by kernel_rfl) (fun _ _ _ h => h) rfl ht hS (wanted_yes rfl ht rfl ((decide_eq_false h10))) (fun w hm => ev_pick_no ht rfl rfl (decide_eq_false (by first | exact h8 | (intro hh; exact h8 hh) | omega)) rfl) ?_
            intro a ht
            refine wph_take (i := 24) rfl (by kernel_rfl) (by kernel_rfl) (by kernel_rfl) (fun _ _ _ h => h) rfl ht hS (wanted_plain rfl) (fun w hm => ev_pick_no ht rfl rfl (decide_eq_false h10) rfl) ?_
            intro a ht
            refine wph_done (by kernel_rfl) ?_
            refine then_normal ?_
            refine wpc_no ht rfl rfl ?_
            refine wp_skip ?_
            refine blk_normal ?_
            refine then_normal ?_
            refine wpr ?_
            refine wpl rfl rfl ht (ev_move ht rfl rfl) ?_
            intro a ht
            refine wpl rfl rfl ht (ev_arith ht rfl rfl rfl rfl) ?_
            intro a ht
            refine wpl rfl rfl ht (ev_assign ht rfl rfl) ?_
            intro a ht
            refine wpList_nil ?_
            exact then_normal ⟨q6, by omega, (w64 (xs0_1 + 1)), H, by omega, ht.sub ⟨rfl, rfl, rfl, rfl, trivial⟩, (hm.pick [0] rfl (by decide)).pickφ [] rfl⟩
        · replace H := ite_no h8 H
          refine wph_pass (i := 4) rfl (by kernel_rfl) (by kernel_rfl) (by kernel_rfl) (fun _ _ _ h => h) rfl ht hS (wanted_no rfl ht rfl (by rw [(decide_eq_false h8)]; decide)) ?_
          intro a ht
          refine wph_pass (i := 5) rfl (by kernel_rfl) (by kernel_rfl) (by kernel_rfl) (fun _ _ _ h => h) rfl ht hS (wanted_no rfl ht rfl (by rw [(decide_eq_false h8)]; decide)) ?_
          intro a ht
          refine wph_pass (i := 6) rfl (by kernel_rfl) (by kernel_rfl) (by kernel_rfl) (fun _ _ _ h => h) rfl ht hS (wanted_no rfl ht rfl (by rw [(decide_eq_false h8)]; decide)) ?_
          intro a ht
          refine wph_pass (i := 7) rfl (by kernel_rfl) (by kernel_rfl) (by kernel_rfl) (fun _ _ _ h => h) rfl ht hS (wanted_no rfl ht rfl (by rw [(decide_eq_false h8)]; decide)) ?_
          intro a ht
          refine wph_pass (i := 8) rfl (by kernel_rfl) (by kernel_rfl) (by kernel_rfl) (fun _ _ _ h => h) rfl ht hS (wanted_no rfl ht rfl (by rw [(decide_eq_false h8)]; decide)) ?_
          intro a ht
          refine wph_pass (i := 9) rfl (by kernel_rfl) (by kernel_rfl) (by kernel_rfl) (fun _ _ _ h => h) rfl ht hS (wanted_no rfl ht rfl (by rw [(decide_eq_false h8)]; decide)) ?_
          intro a ht
          refine wph_pass (i := 10) rfl (by kernel_rfl) (by kernel_rfl) (by kernel_rfl) (fun _ _ _ h => h) rfl ht hS (wanted_no rfl ht rfl (by rw [(decide_eq_false h8)]; decide)) ?_
          intro a ht
          refine wph_pass (i := 11) rfl (by kernel_rfl) (by kernel_rfl) (by kernel_rfl) (fun _ _ _ h => h) rfl ht hS (wanted_no rfl ht rfl (by rw [(decide_eq_false h8)]; decide)) ?_
          intro a ht
          refine wph_take (i := 12) rfl (by kernel_rfl) (by kernel_rfl) (by kernel_rfl) (fun _ _ _ h => h) rfl ht hS (wanted_plain rfl) (fun w hm => ev_pick_no ht rfl rfl (decide_eq_false h8) rfl) ?_
          intro a ht
          refine wph_take (i := 13) rfl (by kernel_rfl) (by kernel_rfl) (by kernel_rfl) (fun _ _ _ h => h) rfl ht hS (wanted_plain rfl) (fun w hm => ev_move ht rfl rfl) ?_
          intro a ht
          refine wph_take (i := 14) rfl (by kernel_rfl) (by kernel_rfl) (by kernel_rfl) (fun _ _ _ h => h) rfl ht hS (wanted_yes rfl ht rfl (rfl)) (fun w hm => ev_move ht rfl rfl) ?_
          intro a ht
          refine wph_take (i := 15) rfl (by kernel_rfl) (by kernel_rfl) (by kernel_rfl) (fun _ _ _ h => h) rfl ht hS (wanted_yes rfl ht rfl (rfl)) (fun w hm => ev_move ht rfl rfl) ?_
          intro a ht
          refine wph_take (i := 16) rfl (by kernel_rfl) (by kernel_rfl) (by kernel_rfl) (fun _ _ _ h => h) rfl ht hS (wanted_yes rfl ht rfl (rfl)) (fun w hm => ev_cmp ht rfl rfl rfl rfl) ?_
          intro a ht
          refine wph_take (i := 17) rfl (by kernel_rfl) (by kernel_rfl) (by kernel_rfl) (fun _ _ _ h => h) rfl ht hS (wanted_yes rfl ht rfl (rfl)) (fun w hm => ev_move ht rfl rfl) ?_
          intro a ht
          refine wph_take (i := 18) rfl (by kernel_rfl) (by kernel_rfl) (by kernel_rfl) (fun _ _ _ h => h) rfl ht hS (wanted_yes rfl ht rfl ((decide_eq_true (by first | exact h8 | (intro hh; exact h8 hh) | omega)))) (fun w hm => ev_move ht rfl rfl) ?_
          intro a ht
          refine wph_take (i := 19) rfl (by kernel_rfl) (by kernel_rfl) (by kernel_rfl) (fun _ _ _ h => h) rfl ht hS (wanted_yes rfl ht rfl ((decide_eq_true (by first | exact h8 | (intro hh; exact h8 hh) | omega)))) (fun w hm => ev_fieldAddr ht rfl rfl fo_27_2) ?_
          intro a ht
          obtain ⟨t11, et11, H⟩ := bind_get H
          refine wph_take (i := 20) rfl (by kernel_rfl) (by kernel_rfl) (by kernel_rfl) (fun _ _ _ h => h) rfl ht hS (wanted_yes rfl ht rfl ((decide_eq_true (by first | exact h8 | (intro hh; exact h8 hh) | omega)))) (fun w hm => ev_indexAddr_arr ht rfl rfl rfl ar_22 (getB_lo et11) (getB_hi et11)) ?_
          intro a ht
          refine wph_take (i := 21) rfl (by kernel_rfl) (by kernel_rfl) (by kernel_rfl) (fun _ _ _ h => h) rfl ht hS (wanted_yes rfl ht rfl ((decide_eq_true (by first | exact h8 | (intro hh; exact h8 hh) | omega)))) (fun w hm => ev_load ht rfl rfl sc_5 (hm.blk_cell 0 rfl (Col.get et11))) ?_
          intro a ht
          refine wph_take (i := 22) rfl (by kernel_rfl) (by kernel_rfl) (by kernel_rfl) (fun _ _ _ h => h) rfl ht hS (wanted_yes rfl ht rfl ((decide_eq_true (by first | exact h8 | (intro hh; exact h8 hh) | omega)))) (fun w hm => ev_cmp ht rfl rfl rfl rfl) ?_
          intro a ht
          refine wph_take (i := 23) rfl (by kernel_rfl) (by kernel_rfl) (by kernel_rfl) (fun _ _ _ h => h) rfl ht hS (wanted_yes rfl ht rfl (rfl)) (fun w hm => ev_pick_yes ht rfl rfl (decide_eq_true (by first | exact h8 | (intro hh; exact h8 hh) | omega)) rfl) ?_
          intro a ht
          refine wph_take (i := 24) rfl (by kernel_rfl) (by kernel_rfl) (by kernel_rfl) (fun _ _ _ h => h) rfl ht hS (wanted_plain rfl) (fun w hm => ev_pick_no ht rfl rfl rfl rfl) ?_
          intro a ht
          refine wph_done (by kernel_rfl) ?_
          refine then_normal ?_
          by_cases h12 : t11 ≠ 0
          · replace H := ite_yes h12 H
            refine wpc_yes ht rfl (decide_eq_true h12) ?_
            refine wp_seq ?_
            refine wpr ?_
            refine wpl rfl rfl ht (ev_assign ht rfl rfl) ?_
            intro a ht
            refine wpList_nil ?_
            refine then_normal ?_
            refine wp_ret ?_
            refine blk_ret ?_
            refine then_ret ?_
            refine then_ret ?_
            refine blk_ret ?_
            refine then_ret ?_
            have hres := ht.res (P := Try.prog) (w := w) (rs := [.tmp 2]) (vs := [.bool false]) (.tmp rfl .nil)
            obtain rfl := Option.some.inj H
            exact leave ht rfl hres ⟨rfl, ((hm.pick [] rfl (by decide)).pickφ [] rfl).post fun _ h => h⟩
          · replace H := ite_no h12 H
            refine wpc_no ht rfl (decide_eq_false h12) ?_
            refine wp_skip ?_
            refine blk_normal ?_
            refine then_normal ?_
            refine wpr ?_
            refine wpl rfl rfl ht (ev_move ht rfl rfl) ?_
            intro a ht
            refine wpl rfl rfl ht (ev_arith ht rfl rfl rfl rfl) ?_
            intro a ht
            refine wpl rfl rfl ht (ev_assign ht rfl rfl) ?_
            intro a ht
            refine wpList_nil ?_
            exact then_normal ⟨q6, by omega, (w64 (xs0_1 + 1)), H, by omega, ht.sub ⟨rfl, rfl, rfl, rfl, trivial⟩, (hm.pick [0] rfl (by decide)).pickφ [] rfl⟩
      · replace H := ite_no h7 H
        refine wpc_no ht rfl (decide_eq_false h7) ?_
        refine wp_exit ?_
        refine then_exit ?_
        refine then_exit ?_
        refine blk_hit ?_
        refine then_normal ?_
        refine wp_seq ?_
        refine wpr ?_
        refine wpl rfl rfl ht (ev_assign ht rfl rfl) ?_
        intro a ht
        refine wpList_nil ?_
        refine then_normal ?_
        refine wp_ret ?_
        have hres := ht.res (P := Try.prog) (w := w) (rs := [.tmp 2]) (vs := [.bool true]) (.tmp rfl .nil)
        obtain rfl := Option.some.inj H
        exact leave ht rfl hres ⟨rfl, ((hm.pick [] rfl (by decide)).pickφ [] rfl).post fun _ h => h⟩
    · replace H := ite_no h5 H
      refine wpc_yes ht rfl (not_f (Bool.eq_false_iff.mpr h5)) ?_
      refine wp_seq ?_
      refine wpr ?_
      refine wpl rfl rfl ht (ev_assign ht rfl rfl) ?_
      intro a ht
      refine wpList_nil ?_
      refine then_normal ?_
      refine wp_ret ?_
      refine then_ret ?_
      have hres := ht.res (P := Try.prog) (w := w) (rs := [.tmp 2]) (vs := [.bool false]) (.tmp rfl .nil)
      obtain rfl := Option.some.inj H
      exact leave ht rfl hres ⟨rfl, ((hm.pick [] rfl (by decide)).pickφ [] rfl).post fun _ h => h⟩
  · replace H := ite_no h3 H
    refine wpl_no rfl rfl ht rfl (by rw [(not_f (Bool.eq_false_iff.mpr h3))]; decide) ?_
    intro a ht
    refine wpl_no rfl rfl ht rfl (by rw [(not_f (Bool.eq_false_iff.mpr h3))]; decide) ?_
    intro a ht
    refine wpl_no rfl rfl ht rfl (by rw [(not_f (Bool.eq_false_iff.mpr h3))]; decide) ?_
    intro a ht
    refine wpl_no rfl rfl ht rfl (by rw [(not_f (Bool.eq_false_iff.mpr h3))]; decide) ?_
    intro a ht
    refine wpl rfl rfl ht (ev_pick_yes ht rfl rfl (not_f (Bool.eq_false_iff.mpr h3)) rfl) ?_
    intro a ht
    refine wpList_nil ?_
    refine then_normal ?_
    refine wpc_yes ht rfl rfl ?_
    refine wp_seq ?_
    refine wpr ?_
    refine wpl rfl rfl ht (ev_assign ht rfl rfl) ?_
    intro a ht
    refine wpList_nil ?_
    refine then_normal ?_
    refine wp_ret ?_
    refine then_ret ?_
    have hres := ht.res (P := Try.prog) (w := w) (rs := [.tmp 2]) (vs := [.bool false]) (.tmp rfl .nil)
    obtain rfl := Option.some.inj H
    exact leave ht rfl hres ⟨rfl, ((hm.pick [] rfl (by decide)).pickφ [] rfl).post fun _ h => h⟩

/-! ### spec_l01Edge: function 52 (loop.example/g01362/spec.l01Edge) -/
def spec_l01Edge.f (i : Int) (j : Int) : Option (Int) := if i > j then (some (w64 ((w64 (Int.tdiv (w64 (i * (w64 (i - 1)))) 2)) + j))) else (some (w64 ((w64 (Int.tdiv (w64 (j * (w64 (j - 1)))) 2)) + i)))
set_option maxRecDepth 100000 in
set_option maxHeartbeats 20000000 in
theorem spec_l01Edge.calls (X : List Nat) (w0 : World)  (i : Int) (j : Int) (r : Int)
    (hp : Pre X w0 [] []) (H : spec_l01Edge.f i j = some r) :
    Calls Try.prog 52 [.int .i64 i, .int .i64 j].toArray w0 (Ret fun v w => v = .int .i64 r ∧ Post X (fps []) w0 [] [] w) := by
  unfold spec_l01Edge.f at H
  refine enterM (n := 22) hp Try.func52 rfl rfl (Nat.le_of_ble_eq_true rfl) fun a w ht hm => ?_
  refine wp_seq ?_
  refine wpr ?_
  refine wpl rfl rfl ht (ev_assign ht rfl rfl) ?_
  intro a ht
  refine wpList_nil ?_
  refine then_normal ?_
  refine wp_seq ?_
  refine wp_seq ?_
  refine wpr ?_
  refine wpl rfl rfl ht (ev_move ht rfl rfl) ?_
  intro a ht
  refine wpl rfl rfl ht (ev_move ht rfl rfl) ?_
  intro a ht
  refine wpl rfl rfl ht (ev_cmp ht rfl rfl rfl rfl) ?_
  intro a ht
  refine wpList_nil ?_
  refine then_normal ?_
  by_cases h1 : i > j
  · replace H := ite_yes h1 H
    refine wpc_yes ht rfl (decide_eq_true h1) ?_
    refine wp_seq ?_
    refine wpr ?_
    refine wpl rfl rfl ht (ev_move ht rfl rfl) ?_
    intro a ht
    refine wpl rfl rfl ht (ev_move ht rfl rfl) ?_
    intro a ht
    refine wpl rfl rfl ht (ev_arith ht rfl rfl rfl rfl) ?_
    intro a ht
    refine wpl rfl rfl ht (ev_arith ht rfl rfl rfl rfl) ?_
    intro a ht
    refine wpl rfl rfl ht (ev_quo ht rfl rfl rfl (by decide)) ?_
    intro a ht
    refine wpl rfl rfl ht (ev_move ht rfl rfl) ?_
    intro a ht
    refine wpl rfl rfl ht (ev_arith ht rfl rfl rfl rfl) ?_
    intro a ht
    refine wpl rfl rfl ht (ev_assign ht rfl rfl) ?_
    intro a ht
    refine wpList_nil ?_
    refine then_normal ?_
    refine wp_ret ?_
    refine then_ret ?_
    have hres := ht.res (P := Try.prog) (w := w) (rs := [.tmp 4]) (vs := [.int .i64 (w64 ((w64 (Int.tdiv (w64 (i * (w64 (i - 1)))) 2)) + j))]) (.tmp rfl .nil)
    obtain rfl := Option.some.inj H
    exact leave ht rfl hres ⟨rfl, ((hm.pick [] rfl (by decide)).pickφ [] rfl).post fun _ h => h⟩
  · replace H := ite_no h1 H
    refine wpc_no ht rfl (decide_eq_false h1) ?_
    refine wp_skip ?_
    refine then_normal ?_
    refine wp_seq ?_
    refine wpr ?_
    refine wpl rfl rfl ht (ev_move ht rfl rfl) ?_
    intro a ht
    refine wpl rfl rfl ht (ev_move ht rfl rfl) ?_
    intro a ht
    refine wpl rfl rfl ht (ev_arith ht rfl rfl rfl rfl) ?_
    intro a ht
    refine wpl rfl rfl ht (ev_arith ht rfl rfl rfl rfl) ?_
    intro a ht
    refine wpl rfl rfl ht (ev_quo ht rfl rfl rfl (by decide)) ?_
    intro a ht
    refine wpl rfl rfl ht (ev_move ht rfl rfl) ?_
    intro a ht
    refine wpl rfl rfl ht (ev_arith ht rfl rfl rfl rfl) ?_
    intro a ht
    refine wpl rfl rfl ht (ev_assign ht rfl rfl) ?_
    intro a ht
    refine wpList_nil ?_
    refine then_normal ?_
    refine wp_ret ?_
    have hres := ht.res (P := Try.prog) (w := w) (rs := [.tmp 4]) (vs := [.int .i64 (w64 ((w64 (Int.tdiv (w64 (j * (w64 (j - 1)))) 2)) + i))]) (.tmp rfl .nil)
    obtain rfl := Option.some.inj H
    exact leave ht rfl hres ⟨rfl, ((hm.pick [] rfl (by decide)).pickφ [] rfl).post fun _ h => h⟩

/-! ### spec_l01At: function 51 (loop.example/g01362/spec.l01At) -/
def spec_l01At.f (x : Col) (i : Int) (j : Int) : Option (Int) := (spec_l01Edge.f i j).bind fun t2 => (getB 136 x.e t2).bind fun t3 => some (w64 t3)
set_option maxRecDepth 100000 in
set_option maxHeartbeats 20000000 in
theorem spec_l01At.calls (X : List Nat) (w0 : World)  (x : Col) (i : Int) (j : Int) (r : Int)
    (hp : Pre X w0 [] []) (H : spec_l01At.f x i j = some r) :
    Calls Try.prog 51 [.agg (Col.cells x).toArray, .int .i64 i, .int .i64 j].toArray w0 (Ret fun v w => v = .int .i64 r ∧ Post X (fps []) w0 [] [] w) := by
  unfold spec_l01At.f at H
  refine enterM (n := 14) hp Try.func51 rfl rfl (Nat.le_of_ble_eq_true rfl) fun a w ht hm => ?_
  refine wp_seq ?_
  refine wpr ?_
  refine wpl_box rfl rfl ht hm rfl rfl rfl ?_
  intro b1 a ht w hm
  refine wpl rfl rfl ht (ev_assign ht rfl rfl) ?_
  intro a ht
  refine wpList_nil ?_
  refine then_normal ?_
  refine wp_seq ?_
  refine wpr ?_
  refine wpl rfl rfl ht (ev_move ht rfl rfl) ?_
  intro a ht
  refine wpl rfl rfl ht (ev_move ht rfl rfl) ?_
  intro a ht
  obtain ⟨t2, et2, H⟩ := bind_get H
  have hcall := spec_l01Edge.calls _ _ i j _ ((fun (hq : Ms _ _ _ ([] ++ [.blk b1 27 (Col.cells x)]) _ _) => hq.lend (φp := []) (allRO_nil)) (hm.pick (own' := [] ++ [.blk b1 27 (Col.cells x)]) [0] rfl (by decide))) et2
  refine wpl_call _ rfl rfl ht rfl rfl rfl rfl can_52 hcall ?_
  clear hcall
  rintro _ w ⟨rfl, hpost⟩ a ht
  replace hm := (hm.pick (own' := [] ++ [.blk b1 27 (Col.cells x)]) [0] rfl (by decide)).backL hpost
  clear hpost
  refine wpl rfl rfl ht (ev_fieldAddr ht rfl rfl fo_27_2) ?_
  intro a ht
  obtain ⟨t3, et3, H⟩ := bind_get H
  refine wpl rfl rfl ht (ev_indexAddr_arr ht rfl rfl rfl ar_22 (getB_lo et3) (getB_hi et3)) ?_
  intro a ht
  refine wpl rfl rfl ht (ev_load ht rfl rfl sc_5 (hm.blk_cell 0 rfl (Col.get et3))) ?_
  intro a ht
  refine wpl rfl rfl ht (ev_convert ht rfl rfl und_5 und_2) ?_
  intro a ht
  refine wpl rfl rfl ht (ev_assign ht rfl rfl) ?_
  intro a ht
  refine wpList_nil ?_
  refine then_normal ?_
  refine wp_ret ?_
  have hres := ht.res (P := Try.prog) (w := w) (rs := [.tmp 6]) (vs := [.int .i64 (w64 t3)]) (.tmp rfl .nil)
  obtain rfl := Option.some.inj H
  exact leave ht rfl hres ⟨rfl, ((hm.pick [] rfl (by decide)).pickφ [] rfl).post fun _ h => h⟩

end Go.Proofs.Ytbgniopmmankdaa.G
