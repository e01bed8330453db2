/- What each Go function computes, as a Lean function, and the proof that it does: written by a program of this session (wip/gen), part 9. -/
import Derived.Test.YtocjhmeekecdiaaGFnExactCountExtensions8
namespace Go.Proofs.Ytocjhmeekecdiaa.G
open Go Go.RowKit Go.Proofs.Ytocjhmeekecdiaa.K
set_option linter.unusedVariables false
set_option linter.unusedSimpArgs false

/-! ### laws_eqInt64S: function 13 (loop.example/g01362/laws.eqInt64S) -/
def laws_eqInt64S.l0 : Nat → List Int → List Int → Int → Option (Bool)
  | 0, _, _, _ => none
  | q2 + 1, a_, b, xs0_1 => if xs0_1 < (a_.length : Int) then ((getI a_ xs0_1).bind fun t4 => (getI b xs0_1).bind fun t5 => if t4 ≠ t5 then (some false) else (laws_eqInt64S.l0 q2 a_ b (w64 (xs0_1 + 1)))) else (some true)
def laws_eqInt64S.f (k : Nat) (a_ : List Int) (b : List Int) : Option (Bool) := if (a_.length : Int) ≠ (b.length : Int) then (some false) else (laws_eqInt64S.l0 k a_ b 0)
set_option maxRecDepth 100000 in
set_option maxHeartbeats 1000000 in
theorem laws_eqInt64S.calls (k : Nat) (X : List Nat) (w0 : World) (A : Option Addr) (c : Nat) (m : Nat) (A2 : Option Addr) (c2 : Nat) (m2 : Nat) (a_ : List Int) (b : List Int) (r : Bool)
    (hp : Pre X w0 [] [IntsAt A c m a_, IntsAt A2 c2 m2 b]) (H : laws_eqInt64S.f k a_ b = some r) :
    Calls Try.prog 13 [.slice A m c, .slice A2 m2 c2].toArray w0 (Ret fun v w => v = .bool r ∧ Post X (fps []) w0 [] [] w) := by
  unfold laws_eqInt64S.f at H
  refine enterM (n := 26) hp Try.func13 rfl rfl (Nat.le_of_ble_eq_true rfl) fun a w ht hm => ?_
  refine wp_seq ?_
  refine wpr ?_
  refine wpl rfl rfl ht (ev_assign ht rfl rfl) ?_
  intro a ht
  refine wpList_nil ?_
  refine then_normal ?_
  refine wp_seq ?_
  refine wp_seq ?_
  refine wpr ?_
  refine wpl rfl rfl ht (ev_move ht rfl rfl) ?_
  intro a ht
  refine wpl rfl rfl ht (ev_len_of ht rfl rfl und_25 (hm.fact (φ := IntsAt A c m a_) 0 rfl)) ?_
  intro a ht
  refine wpl rfl rfl ht (ev_move ht rfl rfl) ?_
  intro a ht
  refine wpl rfl rfl ht (ev_len_of ht rfl rfl und_25 (hm.fact (φ := IntsAt A2 c2 m2 b) 1 rfl)) ?_
  intro a ht
  refine wpl rfl rfl ht (ev_cmp ht rfl rfl rfl rfl) ?_
  intro a ht
  refine wpList_nil ?_
  refine then_normal ?_
  by_cases h1 : (a_.length : Int) ≠ (b.length : Int)
  · replace H := ite_yes h1 H
    refine wpc_yes ht rfl (decide_eq_true h1) ?_
    refine wp_seq ?_
    refine wpr ?_
    refine wpl rfl rfl ht (ev_assign ht rfl rfl) ?_
    intro a ht
    refine wpList_nil ?_
    refine then_normal ?_
    refine wp_ret ?_
    refine then_ret ?_
    have hres := ht.res (P := Try.prog) (w := w) (rs := [.tmp 4]) (vs := [.bool false]) (.tmp rfl .nil)
    obtain rfl := Option.some.inj H
    exact leave ht rfl hres ⟨rfl, ((hm.pick [] rfl (by decide)).pickφ [] rfl).post fun _ h => h⟩
  · replace H := ite_no h1 H
    refine wpc_no ht rfl (decide_eq_false h1) ?_
    refine wp_skip ?_
    refine then_normal ?_
    refine wp_seq ?_
    refine wp_seq ?_
    refine wpr ?_
    refine wpl rfl rfl ht (ev_assign ht rfl rfl) ?_
    intro a ht
    refine wpList_nil ?_
    refine then_normal ?_
    refine wp_block ?_
    refine wpLoop (fun q a w => ∃ (xs0_1 : Int), laws_eqInt64S.l0 q a_ b xs0_1 = some r ∧ q ≤ k ∧ Tm 26 [(0, .slice A m c), (1, .slice A2 m2 c2), (4, .bool false), (5, .int .i64 xs0_1)] a ∧ Ms X (fps []) w0 [] [IntsAt A c m a_, IntsAt A2 c2 m2 b] w) (k0 := k) ⟨0, H, Nat.le_refl _, ht.sub ⟨rfl, rfl, rfl, rfl, trivial⟩, (hm.pick [] rfl (by decide)).pickφ [0, 1] rfl⟩ ?_
    clear H ht hm
    intro q2 a w hJ
    obtain ⟨xs0_1, H, hqq2, ht, hm⟩ := hJ
    cases q2 with
    | zero => cases H
    | succ q2 =>
    rw [laws_eqInt64S.l0] at H
    refine wp_seq ?_
    refine wp_seq ?_
    refine wpr ?_
    refine wpl rfl rfl ht (ev_move ht rfl rfl) ?_
    intro a ht
    refine wpl rfl rfl ht (ev_move ht rfl rfl) ?_
    intro a ht
    refine wpl rfl rfl ht (ev_len_of ht rfl rfl und_25 (hm.fact (φ := IntsAt A c m a_) 0 rfl)) ?_
    intro a ht
    refine wpl rfl rfl ht (ev_cmp ht rfl rfl rfl rfl) ?_
    intro a ht
    refine wpList_nil ?_
    refine then_normal ?_
    by_cases h3 : xs0_1 < (a_.length : Int)
    · replace H := ite_yes h3 H
      refine wpc_yes ht rfl (decide_eq_true h3) ?_
      refine wp_skip ?_
      refine then_normal ?_
      refine wp_seq ?_
      refine wp_block ?_
      refine wp_seq ?_
      refine wph_begin (fun w => Ms X (fps []) w0 [] [IntsAt A c m a_, IntsAt A2 c2 m2 b] w) mixed ?_
      replace hm := hm.drew
      have hS : Ms X (fps []) w0 [] [IntsAt A c m a_, IntsAt A2 c2 m2 b] w.drew := (hm.pick [] rfl (by decide)).pickφ [0, 1] rfl
      generalize w.drew = w at hm hS ⊢
      refine wph_take (i := 0) rfl (by kernel_rfl) (by kernel_rfl) (by kernel_rfl) (fun _ _ _ h => h) rfl ht hS (wanted_plain rfl) (fun w hm => ev_move ht rfl rfl) ?_
      intro a ht
      refine wph_take (i := 1) rfl (by kernel_rfl) (by kernel_rfl) (by kernel_rfl) (fun _ _ _ h => h) rfl ht hS (wanted_plain rfl) (fun w hm => ev_move ht rfl rfl) ?_
      intro a ht
      obtain ⟨t4, et4, H⟩ := bind_get H
      refine wph_take (i := 2) rfl (by kernel_rfl) (by kernel_rfl) (by kernel_rfl) (fun _ _ _ h => h) rfl ht hS (wanted_plain rfl) (fun w hm => ev_index_ints ht rfl rfl rfl so_25 (hm.fact (φ := IntsAt A c m a_) 0 rfl) et4) ?_
      intro a ht
      refine wph_take (i := 3) rfl (by kernel_rfl) (by kernel_rfl) (by kernel_rfl) (fun _ _ _ h => h) rfl ht hS (wanted_plain rfl) (fun w hm => ev_load ht rfl rfl sc_2 (RowAt.cell (hm.fact (φ := IntsAt A c m a_) 0 rfl) (ints_get et4) rfl)) ?_
      intro a ht
      refine wph_take (i := 4) rfl (by kernel_rfl) (by kernel_rfl) (by kernel_rfl) (fun _ _ _ h => h) rfl ht hS (wanted_plain rfl) (fun w hm => ev_move ht rfl rfl) ?_
      intro a ht
      refine wph_take (i := 5) rfl (by kernel_rfl) (by kernel_rfl) (by kernel_rfl) (fun _ _ _ h => h) rfl ht hS (wanted_plain rfl) (fun w hm => ev_move ht rfl rfl) ?_
      intro a ht
      obtain ⟨t5, et5, H⟩ := bind_get H
      refine wph_take (i := 6) rfl (by kernel_rfl) (by kernel_rfl) (by kernel_rfl) (fun _ _ _ h => h) rfl ht hS (wanted_plain rfl) (fun w hm => ev_index_ints ht rfl rfl rfl so_25 (hm.fact (φ := IntsAt A2 c2 m2 b) 1 rfl) et5) ?_
      intro a ht
      refine wph_take (i := 7) rfl (by kernel_rfl) (by kernel_rfl) (by kernel_rfl) (fun _ _ _ h => h) rfl ht hS (wanted_plain rfl) (fun w hm => ev_load ht rfl rfl sc_2 (RowAt.cell (hm.fact (φ := IntsAt A2 c2 m2 b) 1 rfl) (ints_get et5) rfl)) ?_
      intro a ht
      refine wph_take (i := 8) rfl (by kernel_rfl) (by kernel_rfl) (by kernel_rfl) (fun _ _ _ h => h) rfl ht hS (wanted_plain rfl) (fun w hm => ev_cmp ht rfl rfl rfl rfl) ?_
      intro a ht
      refine wph_done (by kernel_rfl) ?_
      refine then_normal ?_
      by_cases h6 : t4 ≠ t5
      · replace H := ite_yes h6 H
        refine wpc_yes ht rfl (decide_eq_true h6) ?_
        refine wp_seq ?_
        refine wpr ?_
        refine wpl rfl rfl ht (ev_assign ht rfl rfl) ?_
        intro a ht
        refine wpList_nil ?_
        refine then_normal ?_
        refine wp_ret ?_
        refine blk_ret ?_
        refine then_ret ?_
        refine then_ret ?_
        refine blk_ret ?_
        refine then_ret ?_
        have hres := ht.res (P := Try.prog) (w := w) (rs := [.tmp 4]) (vs := [.bool false]) (.tmp rfl .nil)
        obtain rfl := Option.some.inj H
        exact leave ht rfl hres ⟨rfl, ((hm.pick [] rfl (by decide)).pickφ [] rfl).post fun _ h => h⟩
      · replace H := ite_no h6 H
        refine wpc_no ht rfl (decide_eq_false h6) ?_
        refine wp_skip ?_
        refine blk_normal ?_
        refine then_normal ?_
        refine wpr ?_
        refine wpl rfl rfl ht (ev_move ht rfl rfl) ?_
        intro a ht
        refine wpl rfl rfl ht (ev_arith ht rfl rfl rfl rfl) ?_
        intro a ht
        refine wpl rfl rfl ht (ev_assign ht rfl rfl) ?_
        intro a ht
        refine wpList_nil ?_
        exact then_normal ⟨q2, by omega, (w64 (xs0_1 + 1)), H, by omega, ht.sub ⟨rfl, rfl, rfl, rfl, trivial⟩, (hm.pick [] rfl (by decide)).pickφ [0, 1] rfl⟩
    · replace H := ite_no h3 H
      refine wpc_no ht rfl (decide_eq_false h3) ?_
      refine wp_exit ?_
      refine then_exit ?_
      refine then_exit ?_
      refine blk_hit ?_
      refine then_normal ?_
      refine wp_seq ?_
      refine wpr ?_
      refine wpl rfl rfl ht (ev_assign ht rfl rfl) ?_
      intro a ht
      refine wpList_nil ?_
      refine then_normal ?_
      refine wp_ret ?_
      have hres := ht.res (P := Try.prog) (w := w) (rs := [.tmp 4]) (vs := [.bool true]) (.tmp rfl .nil)
      obtain rfl := Option.some.inj H
      exact leave ht rfl hres ⟨rfl, ((hm.pick [] rfl (by decide)).pickφ [] rfl).post fun _ h => h⟩

/-! ### laws_FnExactCountExtensions: function 7 (loop.example/g01362/laws.FnExactCountExtensions) -/
def laws_FnExactCountExtensions.f (k : Nat) (aX : Col) (aSizes : List Int) : Option (Bool) := if (aSizes.length : Int) > 1048576 then (some true) else ((laws_toColouring.f k aX).bind fun t3 => (laws_toInt64S.f k aSizes).bind fun t4 => (spec_CountExtensions.f k t3 t4).bind fun t8 => (laws_toInt64S.f k aSizes).bind fun t9 => (laws_toColouring.f k aX).bind fun t13 => (impl_CountExtensions.f k t13 t9).bind fun t14 => if t14.1 ≠ t8.1 then (some false) else (if t14.2 ≠ t8.2 then (some false) else ((laws_toInt64S.f k aSizes).bind fun t17 => (laws_eqInt64S.f k t9 t17).bind fun t21 => if t21 = true then (some true) else (some false))))
set_option maxRecDepth 100000 in
set_option maxHeartbeats 1000000 in
theorem laws_FnExactCountExtensions.calls (k : Nat) (X : List Nat) (w0 : World) (A : Option Addr) (c : Nat) (m : Nat) (aX : Col) (aSizes : List Int) (r : Bool)
    (hp : Pre X w0 [] [IntsAt A c m aSizes]) (H : laws_FnExactCountExtensions.f k aX aSizes = some r) :
    Calls Try.prog 7 [.agg (Col.cells aX).toArray, .slice A m c].toArray w0 (Ret fun v w => v = .bool r ∧ Post X (fps []) w0 [] [] w) := by
  unfold laws_FnExactCountExtensions.f at H
  refine enterM (n := 43) hp Try.func7 rfl rfl (Nat.le_of_ble_eq_true rfl) fun a w ht hm => ?_
  refine wp_seq ?_
  refine wpr ?_
  refine wpl_box rfl rfl ht hm rfl rfl rfl ?_
  intro b1 a ht w hm
  refine wpl rfl rfl ht (ev_assign ht rfl rfl) ?_
  intro a ht
  refine wpList_nil ?_
  refine then_normal ?_
  refine wp_seq ?_
  refine wp_seq ?_
  refine wpr ?_
  refine wpl rfl rfl ht (ev_move ht rfl rfl) ?_
  intro a ht
  refine wpl rfl rfl ht (ev_len_of ht rfl rfl und_25 (hm.fact (φ := IntsAt A c m aSizes) 0 rfl)) ?_
  intro a ht
  refine wpl rfl rfl ht (ev_cmp ht rfl rfl rfl rfl) ?_
  intro a ht
  refine wpList_nil ?_
  refine then_normal ?_
  by_cases h2 : (aSizes.length : Int) > 1048576
  · replace H := ite_yes h2 H
    refine wpc_yes ht rfl (decide_eq_true h2) ?_
    refine wp_seq ?_
    refine wpr ?_
    refine wpl rfl rfl ht (ev_assign ht rfl rfl) ?_
    intro a ht
    refine wpList_nil ?_
    refine then_normal ?_
    refine wp_ret ?_
    refine then_ret ?_
    have hres := ht.res (P := Try.prog) (w := w) (rs := [.tmp 4]) (vs := [.bool true]) (.tmp rfl .nil)
    obtain rfl := Option.some.inj H
    exact leave ht rfl hres ⟨rfl, ((hm.pick [] rfl (by decide)).pickφ [] rfl).post fun _ h => h⟩
  · replace H := ite_no h2 H
    refine wpc_no ht rfl (decide_eq_false h2) ?_
    refine wp_skip ?_
    refine then_normal ?_
    refine wp_seq ?_
    refine wpr ?_
    refine wpl rfl rfl ht (ev_load_agg ht rfl rfl (ag_24.trans (by first | rw [Col.length_cells] | rfl)) (hm.blk_all 0 rfl)) ?_
    intro a ht
    obtain ⟨t3, et3, H⟩ := bind_get H
    have hcall := laws_toColouring.calls k _ _ aX _ ((fun (hq : Ms _ _ _ ([] ++ [.blk b1 24 (Col.cells aX)]) _ _) => hq.lend (φp := []) (allRO_nil)) (hm.pick (own' := [] ++ [.blk b1 24 (Col.cells aX)]) [0] rfl (by decide))) et3
    refine wpl_call _ rfl rfl ht rfl rfl rfl rfl can_10 hcall ?_
    clear hcall
    rintro _ w ⟨rfl, hpost⟩ a ht
    replace hm := (hm.pick (own' := [] ++ [.blk b1 24 (Col.cells aX)]) [0] rfl (by decide)).backL hpost
    clear hpost
    refine wpl rfl rfl ht (ev_move ht rfl rfl) ?_
    intro a ht
    obtain ⟨t4, et4, H⟩ := bind_get H
    have hcall := laws_toInt64S.calls k _ _ A c m aSizes _ ((fun (hq : Ms _ _ _ ([] ++ [.blk b1 24 (Col.cells aX)]) _ _) => hq.lend (φp := [IntsAt A c m aSizes]) (allRO_cons (hq.lendFact 0 rfl) (allRO_nil))) (hm.pick (own' := [] ++ [.blk b1 24 (Col.cells aX)]) [0] rfl (by decide))) et4
    refine wpl_call _ rfl rfl ht rfl rfl rfl rfl can_11 hcall ?_
    clear hcall
    rintro _ w ⟨A5, c6, m7, rfl, hpost⟩ a ht
    replace hm := (hm.pick (own' := [] ++ [.blk b1 24 (Col.cells aX)]) [0] rfl (by decide)).backL hpost
    clear hpost
    obtain ⟨t8, et8, H⟩ := bind_get H
    have hcall := spec_CountExtensions.calls k _ _ A5 c6 m7 t3 t4 _ ((fun (hq : Ms _ _ _ ([] ++ [.vec A5 c6 2 1 m7 (ints t4), .blk b1 24 (Col.cells aX)]) _ _) => hq.lend (φp := [IntsAt A5 c6 m7 t4]) (allRO_cons (hq.lendVec 0 rfl) (allRO_nil))) (hm.pick (own' := [] ++ [.vec A5 c6 2 1 m7 (ints t4), .blk b1 24 (Col.cells aX)]) [0, 1] rfl (by decide))) et8
    refine wpl_call _ rfl rfl ht rfl rfl rfl rfl can_25 hcall ?_
    clear hcall
    rintro _ w ⟨rfl, hpost⟩ a ht
    replace hm := (hm.pick (own' := [] ++ [.vec A5 c6 2 1 m7 (ints t4), .blk b1 24 (Col.cells aX)]) [0, 1] rfl (by decide)).backL hpost
    clear hpost
    refine wpl rfl rfl ht (ev_move ht rfl rfl) ?_
    intro a ht
    refine wpl rfl rfl ht (ev_extract ht rfl rfl rfl) ?_
    intro a ht
    refine wpl rfl rfl ht (ev_extract ht rfl rfl rfl) ?_
    intro a ht
    refine wpl rfl rfl ht (ev_assign ht rfl rfl) ?_
    intro a ht
    refine wpl rfl rfl ht (ev_assign ht rfl rfl) ?_
    intro a ht
    refine wpList_nil ?_
    refine then_normal ?_
    refine wp_seq ?_
    refine wpr ?_
    refine wpl rfl rfl ht (ev_move ht rfl rfl) ?_
    intro a ht
    obtain ⟨t9, et9, H⟩ := bind_get H
    have hcall := laws_toInt64S.calls k _ _ A c m aSizes _ ((fun (hq : Ms _ _ _ ([] ++ [.vec A5 c6 2 1 m7 (ints t4), .blk b1 24 (Col.cells aX)]) _ _) => hq.lend (φp := [IntsAt A c m aSizes]) (allRO_cons (hq.lendFact 0 rfl) (allRO_nil))) (hm.pick (own' := [] ++ [.vec A5 c6 2 1 m7 (ints t4), .blk b1 24 (Col.cells aX)]) [0, 1] rfl (by decide))) et9
    refine wpl_call _ rfl rfl ht rfl rfl rfl rfl can_11 hcall ?_
    clear hcall
    rintro _ w ⟨A10, c11, m12, rfl, hpost⟩ a ht
    replace hm := (hm.pick (own' := [] ++ [.vec A5 c6 2 1 m7 (ints t4), .blk b1 24 (Col.cells aX)]) [0, 1] rfl (by decide)).backL hpost
    clear hpost
    refine wpl rfl rfl ht (ev_assign ht rfl rfl) ?_
    intro a ht
    refine wpList_nil ?_
    refine then_normal ?_
    refine wp_seq ?_
    refine wpr ?_
    refine wpl rfl rfl ht (ev_load_agg ht rfl rfl (ag_24.trans (by first | rw [Col.length_cells] | rfl)) (hm.blk_all 2 rfl)) ?_
    intro a ht
    obtain ⟨t13, et13, H⟩ := bind_get H
    have hcall := laws_toColouring.calls k _ _ aX _ ((fun (hq : Ms _ _ _ ([] ++ [.vec A10 c11 2 1 m12 (ints t9), .vec A5 c6 2 1 m7 (ints t4), .blk b1 24 (Col.cells aX)]) _ _) => hq.lend (φp := []) (allRO_nil)) (hm.pick (own' := [] ++ [.vec A10 c11 2 1 m12 (ints t9), .vec A5 c6 2 1 m7 (ints t4), .blk b1 24 (Col.cells aX)]) [0, 1, 2] rfl (by decide))) et13
    refine wpl_call _ rfl rfl ht rfl rfl rfl rfl can_10 hcall ?_
    clear hcall
    rintro _ w ⟨rfl, hpost⟩ a ht
    replace hm := (hm.pick (own' := [] ++ [.vec A10 c11 2 1 m12 (ints t9), .vec A5 c6 2 1 m7 (ints t4), .blk b1 24 (Col.cells aX)]) [0, 1, 2] rfl (by decide)).backL hpost
    clear hpost
    refine wpl rfl rfl ht (ev_move ht rfl rfl) ?_
    intro a ht
    obtain ⟨t14, et14, H⟩ := bind_get H
    have hcall := impl_CountExtensions.calls k _ _ A10 c11 m12 t13 t9 _ ((fun (hq : Ms _ _ _ ([] ++ [.vec A10 c11 2 1 m12 (ints t9), .vec A5 c6 2 1 m7 (ints t4), .blk b1 24 (Col.cells aX)]) _ _) => hq.lend (φp := [IntsAt A10 c11 m12 t9]) (allRO_cons (hq.lendVec 0 rfl) (allRO_nil))) (hm.pick (own' := [] ++ [.vec A10 c11 2 1 m12 (ints t9), .vec A5 c6 2 1 m7 (ints t4), .blk b1 24 (Col.cells aX)]) [0, 1, 2] rfl (by decide))) et14
    refine wpl_call _ rfl rfl ht rfl rfl rfl rfl can_26 hcall ?_
    clear hcall
    rintro _ w ⟨rfl, hpost⟩ a ht
    replace hm := (hm.pick (own' := [] ++ [.vec A10 c11 2 1 m12 (ints t9), .vec A5 c6 2 1 m7 (ints t4), .blk b1 24 (Col.cells aX)]) [0, 1, 2] rfl (by decide)).backL hpost
    clear hpost
    refine wpl rfl rfl ht (ev_move ht rfl rfl) ?_
    intro a ht
    refine wpl rfl rfl ht (ev_extract ht rfl rfl rfl) ?_
    intro a ht
    refine wpl rfl rfl ht (ev_extract ht rfl rfl rfl) ?_
    intro a ht
    refine wpl rfl rfl ht (ev_assign ht rfl rfl) ?_
    intro a ht
    refine wpl rfl rfl ht (ev_assign ht rfl rfl) ?_
    intro a ht
    refine wpList_nil ?_
    refine then_normal ?_
    refine wp_seq ?_
    refine wp_seq ?_
    refine wpr ?_
    refine wpl rfl rfl ht (ev_move ht rfl rfl) ?_
    intro a ht
    refine wpl rfl rfl ht (ev_move ht rfl rfl) ?_
    intro a ht
    refine wpl rfl rfl ht (ev_cmp ht rfl rfl rfl rfl) ?_
    intro a ht
    refine wpl rfl rfl ht (ev_move ht rfl rfl) ?_
    intro a ht
    by_cases h15 : t14.1 ≠ t8.1
    · replace H := ite_yes h15 H
      refine wpl_no rfl rfl ht rfl (by rw [(decide_eq_true h15)]; decide) ?_
      intro a ht
      refine wpl_no rfl rfl ht rfl (by rw [(decide_eq_true h15)]; decide) ?_
      intro a ht
      refine wpl_no rfl rfl ht rfl (by rw [(decide_eq_true h15)]; decide) ?_
      intro a ht
      refine wpl rfl rfl ht (ev_pick_yes ht rfl rfl (decide_eq_true h15) rfl) ?_
      intro a ht
      refine wpList_nil ?_
      refine then_normal ?_
      refine wpc_yes ht rfl rfl ?_
      refine wp_seq ?_
      refine wpr ?_
      refine wpl rfl rfl ht (ev_assign ht rfl rfl) ?_
      intro a ht
      refine wpList_nil ?_
      refine then_normal ?_
      refine wp_ret ?_
      refine then_ret ?_
      have hres := ht.res (P := Try.prog) (w := w) (rs := [.tmp 4]) (vs := [.bool false]) (.tmp rfl .nil)
      obtain rfl := Option.some.inj H
      exact leave ht rfl hres ⟨rfl, ((hm.pick [] rfl (by decide)).pickφ [] rfl).post fun _ h => h⟩
    · replace H := ite_no h15 H
      refine wpl_yes rfl ht rfl ((decide_eq_false h15)) ?_
      refine wpl rfl rfl ht (ev_move ht rfl rfl) ?_
      intro a ht
      refine wpl_yes rfl ht rfl ((decide_eq_false h15)) ?_
      refine wpl rfl rfl ht (ev_move ht rfl rfl) ?_
      intro a ht
      refine wpl_yes rfl ht rfl ((decide_eq_false h15)) ?_
      refine wpl rfl rfl ht (ev_cmp ht rfl rfl rfl rfl) ?_
      intro a ht
      refine wpl rfl rfl ht (ev_pick_no ht rfl rfl (decide_eq_false h15) rfl) ?_
      intro a ht
      refine wpList_nil ?_
      refine then_normal ?_
      by_cases h16 : t14.2 ≠ t8.2
      · replace H := ite_yes h16 H
        refine wpc_yes ht rfl (decide_eq_true h16) ?_
        refine wp_seq ?_
        refine wpr ?_
        refine wpl rfl rfl ht (ev_assign ht rfl rfl) ?_
        intro a ht
        refine wpList_nil ?_
        refine then_normal ?_
        refine wp_ret ?_
        refine then_ret ?_
        have hres := ht.res (P := Try.prog) (w := w) (rs := [.tmp 4]) (vs := [.bool false]) (.tmp rfl .nil)
        obtain rfl := Option.some.inj H
        exact leave ht rfl hres ⟨rfl, ((hm.pick [] rfl (by decide)).pickφ [] rfl).post fun _ h => h⟩
      · replace H := ite_no h16 H
        refine wpc_no ht rfl (decide_eq_false h16) ?_
        refine wp_skip ?_
        refine then_normal ?_
        refine wp_seq ?_
        refine wp_seq ?_
        refine wpr ?_
        refine wpl rfl rfl ht (ev_move ht rfl rfl) ?_
        intro a ht
        refine wpl rfl rfl ht (ev_move ht rfl rfl) ?_
        intro a ht
        obtain ⟨t17, et17, H⟩ := bind_get H
        have hcall := laws_toInt64S.calls k _ _ A c m aSizes _ ((fun (hq : Ms _ _ _ ([] ++ [.vec A10 c11 2 1 m12 (ints t9), .vec A5 c6 2 1 m7 (ints t4), .blk b1 24 (Col.cells aX)]) _ _) => hq.lend (φp := [IntsAt A c m aSizes]) (allRO_cons (hq.lendFact 0 rfl) (allRO_nil))) (hm.pick (own' := [] ++ [.vec A10 c11 2 1 m12 (ints t9), .vec A5 c6 2 1 m7 (ints t4), .blk b1 24 (Col.cells aX)]) [0, 1, 2] rfl (by decide))) et17
        refine wpl_call _ rfl rfl ht rfl rfl rfl rfl can_11 hcall ?_
        clear hcall
        rintro _ w ⟨A18, c19, m20, rfl, hpost⟩ a ht
        replace hm := (hm.pick (own' := [] ++ [.vec A10 c11 2 1 m12 (ints t9), .vec A5 c6 2 1 m7 (ints t4), .blk b1 24 (Col.cells aX)]) [0, 1, 2] rfl (by decide)).backL hpost
        clear hpost
        obtain ⟨t21, et21, H⟩ := bind_get H
        have hcall := laws_eqInt64S.calls k _ _ A10 c11 m12 A18 c19 m20 t9 t17 _ ((fun (hq : Ms _ _ _ ([] ++ [.vec A18 c19 2 1 m20 (ints t17), .vec A10 c11 2 1 m12 (ints t9), .vec A5 c6 2 1 m7 (ints t4), .blk b1 24 (Col.cells aX)]) _ _) => hq.lend (φp := [IntsAt A10 c11 m12 t9, IntsAt A18 c19 m20 t17]) (allRO_cons (hq.lendVec 1 rfl) (allRO_cons (hq.lendVec 0 rfl) (allRO_nil)))) (hm.pick (own' := [] ++ [.vec A18 c19 2 1 m20 (ints t17), .vec A10 c11 2 1 m12 (ints t9), .vec A5 c6 2 1 m7 (ints t4), .blk b1 24 (Col.cells aX)]) [0, 1, 2, 3] rfl (by decide))) et21
        refine wpl_call _ rfl rfl ht rfl rfl rfl rfl can_13 hcall ?_
        clear hcall
        rintro _ w ⟨rfl, hpost⟩ a ht
        replace hm := (hm.pick (own' := [] ++ [.vec A18 c19 2 1 m20 (ints t17), .vec A10 c11 2 1 m12 (ints t9), .vec A5 c6 2 1 m7 (ints t4), .blk b1 24 (Col.cells aX)]) [0, 1, 2, 3] rfl (by decide)).backL hpost
        clear hpost
        refine wpl rfl rfl ht (ev_not ht rfl rfl) ?_
        intro a ht
        refine wpList_nil ?_
        refine then_normal ?_
        by_cases h22 : t21 = true
        · replace H := ite_yes h22 H
          refine wpc_no ht rfl (not_t h22) ?_
          refine wp_skip ?_
          refine then_normal ?_
          refine wp_seq ?_
          refine wpr ?_
          refine wpl rfl rfl ht (ev_assign ht rfl rfl) ?_
          intro a ht
          refine wpList_nil ?_
          refine then_normal ?_
          refine wp_ret ?_
          have hres := ht.res (P := Try.prog) (w := w) (rs := [.tmp 4]) (vs := [.bool true]) (.tmp rfl .nil)
          obtain rfl := Option.some.inj H
          exact leave ht rfl hres ⟨rfl, ((hm.pick [] rfl (by decide)).pickφ [] rfl).post fun _ h => h⟩
        · replace H := ite_no h22 H
          refine wpc_yes ht rfl (not_f (Bool.eq_false_iff.mpr h22)) ?_
          refine wp_seq ?_
          refine wpr ?_
          refine wpl rfl rfl ht (ev_assign ht rfl rfl) ?_
          intro a ht
          refine wpList_nil ?_
          refine then_normal ?_
          refine wp_ret ?_
          refine then_ret ?_
          have hres := ht.res (P := Try.prog) (w := w) (rs := [.tmp 4]) (vs := [.bool false]) (.tmp rfl .nil)
          obtain rfl := Option.some.inj H
          exact leave ht rfl hres ⟨rfl, ((hm.pick [] rfl (by decide)).pickφ [] rfl).post fun _ h => h⟩

end Go.Proofs.Ytocjhmeekecdiaa.G
