/- What each Go function computes, as a Lean function, and the proof that it does: written by a program of this session (wip/gen), part 8. -/
import Derived.Test.YtkceneefhbdifaaGFnCircularCounts7
namespace Go.Proofs.Ytkceneefhbdifaa.G
open Go Go.RowKit Go.Proofs.Ytkceneefhbdifaa.K
set_option linter.unusedVariables false
set_option linter.unusedSimpArgs false

/-! ### impl_Colouring_isColouring: function 40 ((*loop.example/g01362/impl.Colouring).isColouring) -/
def impl_Colouring_isColouring.l0 : Nat → Col → Int → Option (Bool)
  | 0, _, _ => none
  | q5 + 1, x, xs0_1 => if xs0_1 < 136 then ((getB 136 x.e xs0_1).bind fun t7 => if (w64 t7) ≥ x.k then (some false) else ((impl_Colouring_edges.f x).bind fun t9 => if xs0_1 ≥ t9 then (if t7 ≠ 0 then (some false) else (impl_Colouring_isColouring.l0 q5 x (w64 (xs0_1 + 1)))) else (impl_Colouring_isColouring.l0 q5 x (w64 (xs0_1 + 1))))) else (some true)
def impl_Colouring_isColouring.f (k : Nat) (x : Col) : Option (Bool) := (impl_in.f x.p 1 17).bind fun t1 => if t1 = true then ((impl_in.f x.k 1 4).bind fun t3 => if t3 = true then (impl_Colouring_isColouring.l0 k x 0) else (some false)) else (some false)
set_option maxRecDepth 100000 in
set_option maxHeartbeats 20000000 in
theorem impl_Colouring_isColouring.calls (k : Nat) (X : List Nat) (w0 : World) (b : Nat) (x : Col) (r : Bool)
    (hp : Pre X w0 [.blk b 29 (Col.cells x)] []) (H : impl_Colouring_isColouring.f k x = some r) :
    Calls Try.prog 40 [.pointer (some ⟨b, 0, none⟩)].toArray w0 (Ret fun v w => v = .bool r ∧ Post X (fps [.blk b 29 (Col.cells x)]) w0 [.blk b 29 (Col.cells x)] [] w) := by
  unfold impl_Colouring_isColouring.f at H
  refine enterM (n := 45) hp Try.func40 rfl rfl (Nat.le_of_ble_eq_true rfl) fun a w ht hm => ?_
  refine wp_seq ?_
  refine wpr ?_
  refine wpl rfl rfl ht (ev_assign ht rfl rfl) ?_
  intro a ht
  refine wpList_nil ?_
  refine then_normal ?_
  refine wp_seq ?_
  refine wp_seq ?_
  refine wpr ?_
  refine wpl rfl rfl ht (ev_move ht rfl rfl) ?_
  intro a ht
  refine wpl rfl rfl ht (ev_nilCheck ht rfl rfl) ?_
  intro a ht
  refine wpl rfl rfl ht (ev_fieldAddr ht rfl rfl fo_29_0) ?_
  intro a ht
  refine wpl rfl rfl ht (ev_load ht rfl rfl sc_2 (hm.blk_cell 0 rfl rfl)) ?_
  intro a ht
  obtain ⟨t1, et1, H⟩ := bind_get H
  have hcall := impl_in.calls _ _ x.p 1 17 _ ((fun (hq : Ms _ _ _ ([] ++ [.blk b 29 (Col.cells x)]) _ _) => hq.lend (φp := []) (allRO_nil)) (hm.pick (own' := [] ++ [.blk b 29 (Col.cells x)]) [0] rfl (by decide))) et1
  refine wpl_call _ rfl rfl ht rfl rfl rfl rfl can_18 hcall ?_
  clear hcall
  rintro _ w ⟨rfl, hpost⟩ a ht
  replace hm := (hm.pick (own' := [] ++ [.blk b 29 (Col.cells x)]) [0] rfl (by decide)).backL hpost
  clear hpost
  refine wpl rfl rfl ht (ev_not ht rfl rfl) ?_
  intro a ht
  refine wpl rfl rfl ht (ev_move ht rfl rfl) ?_
  intro a ht
  by_cases h2 : t1 = true
  · replace H := ite_yes h2 H
    refine wpl_yes rfl ht rfl ((not_t h2)) ?_
    refine wpl rfl rfl ht (ev_move ht rfl rfl) ?_
    intro a ht
    refine wpl_yes rfl ht rfl ((not_t h2)) ?_
    refine wpl rfl rfl ht (ev_nilCheck ht rfl rfl) ?_
    intro a ht
    refine wpl_yes rfl ht rfl ((not_t h2)) ?_
    refine wpl rfl rfl ht (ev_fieldAddr ht rfl rfl fo_29_1) ?_
    intro a ht
    refine wpl_yes rfl ht rfl ((not_t h2)) ?_
    refine wpl rfl rfl ht (ev_load ht rfl rfl sc_2 (hm.blk_cell 0 rfl rfl)) ?_
    intro a ht
    refine wpl_yes rfl ht rfl ((not_t h2)) ?_
    obtain ⟨t3, et3, H⟩ := bind_get H
    have hcall := impl_in.calls _ _ x.k 1 4 _ ((fun (hq : Ms _ _ _ ([] ++ [.blk b 29 (Col.cells x)]) _ _) => hq.lend (φp := []) (allRO_nil)) (hm.pick (own' := [] ++ [.blk b 29 (Col.cells x)]) [0] rfl (by decide))) et3
    refine wpl_call _ rfl rfl ht rfl rfl rfl rfl can_18 hcall ?_
    clear hcall
    rintro _ w ⟨rfl, hpost⟩ a ht
    replace hm := (hm.pick (own' := [] ++ [.blk b 29 (Col.cells x)]) [0] rfl (by decide)).backL hpost
    clear hpost
    refine wpl_yes rfl ht rfl ((not_t h2)) ?_
    refine wpl rfl rfl ht (ev_not ht rfl rfl) ?_
    intro a ht
    refine wpl rfl rfl ht (ev_pick_no ht rfl rfl (not_t h2) rfl) ?_
    intro a ht
    refine wpList_nil ?_
    refine then_normal ?_
    by_cases h4 : t3 = true
    · replace H := ite_yes h4 H
      refine wpc_no ht rfl (not_t h4) ?_
      refine wp_skip ?_
      refine then_normal ?_
      refine wp_seq ?_
      refine wp_seq ?_
      refine wpr ?_
      refine wpl rfl rfl ht (ev_move ht rfl rfl) ?_
      intro a ht
      refine wpl rfl rfl ht (ev_nilCheck ht rfl rfl) ?_
      intro a ht
      refine wpl rfl rfl ht (ev_fieldAddr ht rfl rfl fo_29_2) ?_
      intro a ht
      refine wpl rfl rfl ht (ev_load_agg ht rfl rfl (ag_27.trans (by first | rw [length_bytesC] | rfl)) (hm.col_edges 0 rfl)) ?_
      intro a ht
      refine wpl rfl rfl ht (ev_move ht rfl rfl) ?_
      intro a ht
      refine wpList_nil ?_
      refine then_normal ?_
      refine wp_block ?_
      refine wpLoop (fun q a w => ∃ (xs0_1 : Int), impl_Colouring_isColouring.l0 q x xs0_1 = some r ∧ q ≤ k ∧ Tm 45 [(0, .pointer (some ⟨b, 0, none⟩)), (2, .bool false), (22, .agg (bytesC 136 x.e).toArray), (23, .int .i64 xs0_1)] a ∧ Ms X (fps [.blk b 29 (Col.cells x)]) w0 [.blk b 29 (Col.cells x)] [] w) (k0 := k) ⟨0, H, Nat.le_refl _, ht.sub ⟨rfl, rfl, rfl, rfl, trivial⟩, (hm.pick [0] rfl (by decide)).pickφ [] rfl⟩ ?_
      clear H ht hm
      intro q5 a w hJ
      obtain ⟨xs0_1, H, hqq5, ht, hm⟩ := hJ
      cases q5 with
      | zero => cases H
      | succ q5 =>
      rw [impl_Colouring_isColouring.l0] at H
      refine wp_seq ?_
      refine wpr ?_
      refine wpl rfl rfl ht (ev_cmp ht rfl rfl rfl rfl) ?_
      intro a ht
      refine wpList_nil ?_
      refine then_normal ?_
      refine wp_seq ?_
      by_cases h6 : xs0_1 < 136
      · replace H := ite_yes h6 H
        refine wpc_yes ht rfl (decide_eq_true h6) ?_
        refine wp_skip ?_
        refine then_normal ?_
        refine wp_seq ?_
        refine wp_block ?_
        refine wp_seq ?_
        refine wpr ?_
        refine wpl rfl rfl ht (ev_move ht rfl rfl) ?_
        intro a ht
        obtain ⟨t7, et7, H⟩ := bind_get H
        refine wpl rfl rfl ht (ev_index_bytes ht rfl rfl rfl und_27 sc_5 sz1_5 et7) ?_
        intro a ht
        refine wpl rfl rfl ht (ev_assign ht rfl rfl) ?_
        intro a ht
        refine wpl rfl rfl ht (ev_assign ht rfl rfl) ?_
        intro a ht
        refine wpList_nil ?_
        refine then_normal ?_
        refine wp_seq ?_
        refine wpr ?_
        refine wpl rfl rfl ht (ev_move ht rfl rfl) ?_
        intro a ht
        refine wpl rfl rfl ht (ev_convert ht rfl rfl und_5 und_2) ?_
        intro a ht
        refine wpl rfl rfl ht (ev_move ht rfl rfl) ?_
        intro a ht
        refine wpl rfl rfl ht (ev_nilCheck ht rfl rfl) ?_
        intro a ht
        refine wpl rfl rfl ht (ev_fieldAddr ht rfl rfl fo_29_1) ?_
        intro a ht
        refine wpl rfl rfl ht (ev_load ht rfl rfl sc_2 (hm.blk_cell 0 rfl rfl)) ?_
        intro a ht
        refine wpl rfl rfl ht (ev_cmp ht rfl rfl rfl rfl) ?_
        intro a ht
        refine wpl rfl rfl ht (ev_move ht rfl rfl) ?_
        intro a ht
        by_cases h8 : (w64 t7) ≥ x.k
        · replace H := ite_yes h8 H
          refine wpl_no rfl rfl ht rfl (by rw [(decide_eq_true h8)]; decide) ?_
          intro a ht
          refine wpl_no rfl rfl ht rfl (by rw [(decide_eq_true h8)]; decide) ?_
          intro a ht
          refine wpl_no rfl rfl ht rfl (by rw [(decide_eq_true h8)]; decide) ?_
          intro a ht
          refine wpl_no rfl rfl ht rfl (by rw [(decide_eq_true h8)]; decide) ?_
          intro a ht
          refine wpl_no rfl rfl ht rfl (by rw [(decide_eq_true h8)]; decide) ?_
          intro a ht
          refine wpl_none rfl rfl ht rfl ?_
          intro a ht
          refine wpl_none rfl rfl ht rfl ?_
          intro a ht
          refine wpl_no rfl rfl ht rfl (by rw [(decide_eq_true h8)]; decide) ?_
          intro a ht
          refine wpl rfl rfl ht (ev_pick_yes ht rfl rfl (decide_eq_true h8) rfl) ?_
          intro a ht
          refine wpList_nil ?_
          refine then_normal ?_
          refine wpc_yes ht rfl rfl ?_
          refine wp_seq ?_
          refine wpr ?_
          refine wpl rfl rfl ht (ev_assign ht rfl rfl) ?_
          intro a ht
          refine wpList_nil ?_
          refine then_normal ?_
          refine wp_ret ?_
          refine blk_ret ?_
          refine then_ret ?_
          refine then_ret ?_
          refine blk_ret ?_
          refine then_ret ?_
          have hres := ht.res (P := Try.prog) (w := w) (rs := [.tmp 2]) (vs := [.bool false]) (.tmp rfl .nil)
          obtain rfl := Option.some.inj H
          exact leave ht rfl hres ⟨rfl, ((hm.pick [0] rfl (by decide)).pickφ [] rfl).post fun _ h => h⟩
        · replace H := ite_no h8 H
          refine wpl_yes rfl ht rfl ((decide_eq_false h8)) ?_
          refine wpl rfl rfl ht (ev_move ht rfl rfl) ?_
          intro a ht
          refine wpl_yes rfl ht rfl ((decide_eq_false h8)) ?_
          refine wpl rfl rfl ht (ev_move ht rfl rfl) ?_
          intro a ht
          refine wpl_yes rfl ht rfl ((decide_eq_false h8)) ?_
          obtain ⟨t9, et9, H⟩ := bind_get H
          have hcall := impl_Colouring_edges.calls _ _ b x _ ((fun (hq : Ms _ _ _ ([.blk b 29 (Col.cells x)] ++ []) _ _) => hq.lend (φp := []) (allRO_nil)) (hm.pick (own' := [.blk b 29 (Col.cells x)] ++ []) [0] rfl (by decide))) et9
          refine wpl_call _ rfl rfl ht rfl rfl rfl rfl can_54 hcall ?_
          clear hcall
          rintro _ w ⟨rfl, hpost⟩ a ht
          replace hm := (hm.pick (own' := [.blk b 29 (Col.cells x)] ++ []) [0] rfl (by decide)).backL hpost
          clear hpost
          refine wpl_yes rfl ht rfl ((decide_eq_false h8)) ?_
          refine wpl rfl rfl ht (ev_cmp ht rfl rfl rfl rfl) ?_
          intro a ht
          refine wpl_yes rfl ht rfl ((decide_eq_false h8)) ?_
          refine wpl rfl rfl ht (ev_move ht rfl rfl) ?_
          intro a ht
          by_cases h10 : xs0_1 ≥ t9
          · replace H := ite_yes h10 H
            refine wpl_yes rfl ht rfl ((decide_eq_true h10)) ?_
            refine wpl rfl rfl ht (ev_move ht rfl rfl) ?_
            intro a ht
            refine wpl_yes rfl ht rfl ((decide_eq_true h10)) ?_
            refine wpl rfl rfl ht (ev_cmp ht rfl rfl rfl rfl) ?_
            intro a ht
            refine wpl_yes rfl ht rfl ((decide_eq_false h8)) ?_
            refine wpl rfl rfl ht (ev_pick_yes ht rfl rfl (decide_eq_true h10) rfl) ?_
            intro a ht
            refine wpl rfl rfl ht (ev_pick_no ht rfl rfl (decide_eq_false h8) rfl) ?_
            intro a ht
            refine wpList_nil ?_
            refine then_normal ?_
            by_cases h11 : t7 ≠ 0
            · replace H := ite_yes h11 H
              refine wpc_yes ht rfl (decide_eq_true h11) ?_
              refine wp_seq ?_
              refine wpr ?_
              refine wpl rfl rfl ht (ev_assign ht rfl rfl) ?_
              intro a ht
              refine wpList_nil ?_
              refine then_normal ?_
              refine wp_ret ?_
              refine blk_ret ?_
              refine then_ret ?_
              refine then_ret ?_
              refine blk_ret ?_
              refine then_ret ?_
              have hres := ht.res (P := Try.prog) (w := w) (rs := [.tmp 2]) (vs := [.bool false]) (.tmp rfl .nil)
              obtain rfl := Option.some.inj H
              exact leave ht rfl hres ⟨rfl, ((hm.pick [0] rfl (by decide)).pickφ [] rfl).post fun _ h => h⟩
            · replace H := ite_no h11 H
              refine wpc_no ht rfl (decide_eq_false h11) ?_
              refine wp_skip ?_
              refine blk_normal ?_
              refine then_normal ?_
              refine wpr ?_
              refine wpl rfl rfl ht (ev_arith ht rfl rfl rfl rfl) ?_
              intro a ht
              refine wpl rfl rfl ht (ev_move ht rfl rfl) ?_
              intro a ht
              refine wpList_nil ?_
              exact then_normal ⟨q5, by omega, (w64 (xs0_1 + 1)), H, by omega, ht.sub ⟨rfl, rfl, rfl, rfl, trivial⟩, (hm.pick [0] rfl (by decide)).pickφ [] rfl⟩
          · replace H := ite_no h10 H
            refine wpl_no rfl rfl ht rfl (by rw [(decide_eq_false h10)]; decide) ?_
            intro a ht
            refine wpl_no rfl rfl ht rfl (by rw [(decide_eq_false h10)]; decide) ?_
            intro a ht
            refine wpl_yes rfl ht rfl ((decide_eq_false h8)) ?_
            refine wpl rfl rfl ht (ev_pick_no ht rfl rfl (decide_eq_false h10) rfl) ?_
            intro a ht
            refine wpl rfl rfl ht (ev_pick_no ht rfl rfl (decide_eq_false h8) rfl) ?_
            intro a ht
            refine wpList_nil ?_
            refine then_normal ?_
            refine wpc_no ht rfl rfl ?_
            refine wp_skip ?_
            refine blk_normal ?_
            refine then_normal ?_
            refine wpr ?_
            refine wpl rfl rfl ht (ev_arith ht rfl rfl rfl rfl) ?_
            intro a ht
            refine wpl rfl rfl ht (ev_move ht rfl rfl) ?_
            intro a ht
            refine wpList_nil ?_
            exact then_normal ⟨q5, by omega, (w64 (xs0_1 + 1)), H, by omega, ht.sub ⟨rfl, rfl, rfl, rfl, trivial⟩, (hm.pick [0] rfl (by decide)).pickφ [] rfl⟩
      · replace H := ite_no h6 H
        refine wpc_no ht rfl (decide_eq_false h6) ?_
        refine wp_exit ?_
        refine then_exit ?_
        refine then_exit ?_
        refine blk_hit ?_
        refine then_normal ?_
        refine wp_seq ?_
        refine wpr ?_
        refine wpl rfl rfl ht (ev_assign ht rfl rfl) ?_
        intro a ht
        refine wpList_nil ?_
        refine then_normal ?_
        refine wp_ret ?_
        have hres := ht.res (P := Try.prog) (w := w) (rs := [.tmp 2]) (vs := [.bool true]) (.tmp rfl .nil)
        obtain rfl := Option.some.inj H
        exact leave ht rfl hres ⟨rfl, ((hm.pick [0] rfl (by decide)).pickφ [] rfl).post fun _ h => h⟩
    · replace H := ite_no h4 H
      refine wpc_yes ht rfl (not_f (Bool.eq_false_iff.mpr h4)) ?_
      refine wp_seq ?_
      refine wpr ?_
      refine wpl rfl rfl ht (ev_assign ht rfl rfl) ?_
      intro a ht
      refine wpList_nil ?_
      refine then_normal ?_
      refine wp_ret ?_
      refine then_ret ?_
      have hres := ht.res (P := Try.prog) (w := w) (rs := [.tmp 2]) (vs := [.bool false]) (.tmp rfl .nil)
      obtain rfl := Option.some.inj H
      exact leave ht rfl hres ⟨rfl, ((hm.pick [0] rfl (by decide)).pickφ [] rfl).post fun _ h => h⟩
  · replace H := ite_no h2 H
    refine wpl_no rfl rfl ht rfl (by rw [(not_f (Bool.eq_false_iff.mpr h2))]; decide) ?_
    intro a ht
    refine wpl_no rfl rfl ht rfl (by rw [(not_f (Bool.eq_false_iff.mpr h2))]; decide) ?_
    intro a ht
    refine wpl_no rfl rfl ht rfl (by rw [(not_f (Bool.eq_false_iff.mpr h2))]; decide) ?_
    intro a ht
    refine wpl_no rfl rfl ht rfl (by rw [(not_f (Bool.eq_false_iff.mpr h2))]; decide) ?_
    intro a ht
    refine wpl_no rfl rfl ht rfl (by rw [(not_f (Bool.eq_false_iff.mpr h2))]; decide) ?_
    intro a ht
    refine wpl_no rfl rfl ht rfl (by rw [(not_f (Bool.eq_false_iff.mpr h2))]; decide) ?_
    intro a ht
    refine wpl rfl rfl ht (ev_pick_yes ht rfl rfl (not_f (Bool.eq_false_iff.mpr h2)) rfl) ?_
    intro a ht
    refine wpList_nil ?_
    refine then_normal ?_
    refine wpc_yes ht rfl rfl ?_
    refine wp_seq ?_
    refine wpr ?_
    refine wpl rfl rfl ht (ev_assign ht rfl rfl) ?_
    intro a ht
    refine wpList_nil ?_
    refine then_normal ?_
    refine wp_ret ?_
    refine then_ret ?_
    have hres := ht.res (P := Try.prog) (w := w) (rs := [.tmp 2]) (vs := [.bool false]) (.tmp rfl .nil)
    obtain rfl := Option.some.inj H
    exact leave ht rfl hres ⟨rfl, ((hm.pick [0] rfl (by decide)).pickφ [] rfl).post fun _ h => h⟩

/-! ### impl_areForbidden: function 38 (loop.example/g01362/impl.areForbidden) -/
def impl_areForbidden.f (k : Nat) (sizes : List Int) (k_ : Int) : Option (Bool) := (impl_areIn.f k sizes k_ 1 17).bind fun t1 => some t1
set_option maxRecDepth 100000 in
set_option maxHeartbeats 20000000 in
theorem impl_areForbidden.calls (k : Nat) (X : List Nat) (w0 : World) (A : Option Addr) (c : Nat) (m : Nat) (sizes : List Int) (k_ : Int) (r : Bool)
    (hp : Pre X w0 [] [IntsAt A c m sizes]) (H : impl_areForbidden.f k sizes k_ = some r) :
    Calls Try.prog 38 [.slice A m c, .int .i64 k_].toArray w0 (Ret fun v w => v = .bool r ∧ Post X (fps []) w0 [] [] w) := by
  unfold impl_areForbidden.f at H
  refine enterM (n := 8) hp Try.func38 rfl rfl (Nat.le_of_ble_eq_true rfl) fun a w ht hm => ?_
  refine wp_seq ?_
  refine wpr ?_
  refine wpl rfl rfl ht (ev_assign ht rfl rfl) ?_
  intro a ht
  refine wpList_nil ?_
  refine then_normal ?_
  refine wp_seq ?_
  refine wpr ?_
  refine wpl rfl rfl ht (ev_move ht rfl rfl) ?_
  intro a ht
  refine wpl rfl rfl ht (ev_move ht rfl rfl) ?_
  intro a ht
  obtain ⟨t1, et1, H⟩ := bind_get H
  have hcall := impl_areIn.calls k _ _ A c m sizes k_ 1 17 _ ((fun (hq : Ms _ _ _ ([] ++ []) _ _) => hq.lend (φp := [IntsAt A c m sizes]) (allRO_cons (hq.lendFact 0 rfl) (allRO_nil))) (hm.pick (own' := [] ++ []) [] rfl (by decide))) et1
  refine wpl_call _ rfl rfl ht rfl rfl rfl rfl can_32 hcall ?_
  clear hcall
  rintro _ w ⟨rfl, hpost⟩ a ht
  replace hm := (hm.pick (own' := [] ++ []) [] rfl (by decide)).backL hpost
  clear hpost
  refine wpl rfl rfl ht (ev_assign ht rfl rfl) ?_
  intro a ht
  refine wpList_nil ?_
  refine then_normal ?_
  refine wp_ret ?_
  have hres := ht.res (P := Try.prog) (w := w) (rs := [.tmp 4]) (vs := [.bool t1]) (.tmp rfl .nil)
  obtain rfl := Option.some.inj H
  exact leave ht rfl hres ⟨rfl, ((hm.pick [] rfl (by decide)).pickφ [] rfl).post fun _ h => h⟩

/-! ### impl_always: function 26 (loop.example/g01362/impl.always) -/
def impl_always.f  : Option (Bool) := some true
set_option maxRecDepth 100000 in
set_option maxHeartbeats 20000000 in
theorem impl_always.calls (X : List Nat) (w0 : World)   (r : Bool)
    (hp : Pre X w0 [] []) (H : impl_always.f  = some r) :
    Calls Try.prog 26 [].toArray w0 (Ret fun v w => v = .bool r ∧ Post X (fps []) w0 [] [] w) := by
  unfold impl_always.f at H
  refine enterM (n := 1) hp Try.func26 rfl rfl (Nat.le_of_ble_eq_true rfl) fun a w ht hm => ?_
  refine wp_seq ?_
  refine wpr ?_
  refine wpl rfl rfl ht (ev_assign ht rfl rfl) ?_
  intro a ht
  refine wpList_nil ?_
  refine then_normal ?_
  refine wp_seq ?_
  refine wpr ?_
  refine wpl rfl rfl ht (ev_assign ht rfl rfl) ?_
  intro a ht
  refine wpList_nil ?_
  refine then_normal ?_
  refine wp_ret ?_
  have hres := ht.res (P := Try.prog) (w := w) (rs := [.tmp 0]) (vs := [.bool true]) (.tmp rfl .nil)
  obtain rfl := Option.some.inj H
  exact leave ht rfl hres ⟨rfl, ((hm.pick [] rfl (by decide)).pickφ [] rfl).post fun _ h => h⟩

/-! ### impl_Colouring_sizesCode_1__always: function 37 ((*loop.example/g01362/impl.Colouring).sizesCode$1) -/
def impl_Colouring_sizesCode_1__always.f (k : Nat) (x : List Int) (x2 : Col) : Option (Bool) := (impl_areForbidden.f k x x2.k).bind fun t5501 => if t5501 = true then ((impl_always.f ).bind fun t8501 => some t8501) else (some false)
set_option maxRecDepth 100000 in
set_option maxHeartbeats 20000000 in
theorem impl_Colouring_sizesCode_1__always.calls (k : Nat) (X : List Nat) (w0 : World) (b : Nat) (A : Option Addr) (c : Nat) (m : Nat) (b2 : Nat) (b3 : Nat) (b4 : Nat) (x : List Int) (x2 : Col) (r : Bool)
    (hp : Pre X w0 [.blk b 24 [.slice A m c], .blk b2 63 [.pointer (some ⟨b3, 0, none⟩)], .blk b3 29 (Col.cells x2), .blk b4 52 [.func (.func 26) #[] #[]]] [IntsAt A c m x]) (H : impl_Colouring_sizesCode_1__always.f k x x2 = some r) :
    Calls Try.prog 37 [.pointer (some ⟨b, 0, none⟩), .pointer (some ⟨b2, 0, none⟩), .pointer (some ⟨b4, 0, none⟩)].toArray w0 (Ret fun v w => v = .bool r ∧ Post X (fps [.blk b 24 [.slice A m c], .blk b2 63 [.pointer (some ⟨b3, 0, none⟩)], .blk b3 29 (Col.cells x2), .blk b4 52 [.func (.func 26) #[] #[]]]) w0 [.blk b 24 [.slice A m c], .blk b2 63 [.pointer (some ⟨b3, 0, none⟩)], .blk b3 29 (Col.cells x2), .blk b4 52 [.func (.func 26) #[] #[]]] [] w) := by
  unfold impl_Colouring_sizesCode_1__always.f at H
  refine enterM (n := 14) hp Try.func37 rfl rfl (Nat.le_of_ble_eq_true rfl) fun a w ht hm => ?_
  refine wp_seq ?_
  refine wpr ?_
  refine wpl rfl rfl ht (ev_assign ht rfl rfl) ?_
  intro a ht
  refine wpList_nil ?_
  refine then_normal ?_
  refine wp_seq ?_
  refine wph_begin (fun w => Ms X (fps [.blk b 24 [.slice A m c], .blk b2 63 [.pointer (some ⟨b3, 0, none⟩)], .blk b3 29 (Col.cells x2), .blk b4 52 [.func (.func 26) #[] #[]]]) w0 [.blk b 24 [.slice A m c], .blk b2 63 [.pointer (some ⟨b3, 0, none⟩)], .blk b3 29 (Col.cells x2), .blk b4 52 [.func (.func 26) #[] #[]]] [IntsAt A c m x] w) mixed ?_
  replace hm := hm.drew
  have hS : Ms X (fps [.blk b 24 [.slice A m c], .blk b2 63 [.pointer (some ⟨b3, 0, none⟩)], .blk b3 29 (Col.cells x2), .blk b4 52 [.func (.func 26) #[] #[]]]) w0 [.blk b 24 [.slice A m c], .blk b2 63 [.pointer (some ⟨b3, 0, none⟩)], .blk b3 29 (Col.cells x2), .blk b4 52 [.func (.func 26) #[] #[]]] [IntsAt A c m x] w.drew := (hm.pick [0, 1, 2, 3] rfl (by decide)).pickφ [0] rfl
  generalize w.drew = w at hm hS ⊢
  refine wph_take (i := 0) rfl (by kernel_rfl) (by kernel_rfl) (by kernel_rfl) (fun _ _ _ h => h) rfl ht hS (wanted_plain rfl) (fun w hm => ev_load ht rfl rfl sc_24 (hm.blk_cell 0 rfl rfl)) ?_
  intro a ht
  refine wph_take (i := 1) rfl (by kernel_rfl) (by kernel_rfl) (by kernel_rfl) (fun _ _ _ h => h) rfl ht hS (wanted_plain rfl) (fun w hm => ev_load ht rfl rfl sc_63 (hm.blk_cell 1 rfl rfl)) ?_
  intro a ht
  refine wph_take (i := 2) rfl (by kernel_rfl) (by kernel_rfl) (by kernel_rfl) (fun _ _ _ h => h) rfl ht hS (wanted_plain rfl) (fun w hm => ev_nilCheck ht rfl rfl) ?_
  intro a ht
  refine wph_take (i := 3) rfl (by kernel_rfl) (by kernel_rfl) (by kernel_rfl) (fun _ _ _ h => h) rfl ht hS (wanted_plain rfl) (fun w hm => ev_fieldAddr ht rfl rfl fo_29_1) ?_
  intro a ht
  refine wph_take (i := 4) rfl (by kernel_rfl) (by kernel_rfl) (by kernel_rfl) (fun _ _ _ h => h) rfl ht hS (wanted_plain rfl) (fun w hm => ev_load ht rfl rfl sc_2 (hm.blk_cell 2 rfl rfl)) ?_
  intro a ht
  refine wph_one (i := 5) (by kernel_rfl) (wph_step rfl ?_)
  obtain ⟨t5501, et5501, H⟩ := bind_get H
  have hcall := impl_areForbidden.calls k _ _ A c m x x2.k _ ((fun (hq : Ms _ _ _ ([] ++ [.blk b 24 [.slice A m c], .blk b2 63 [.pointer (some ⟨b3, 0, none⟩)], .blk b3 29 (Col.cells x2), .blk b4 52 [.func (.func 26) #[] #[]]]) _ _) => hq.lend (φp := [IntsAt A c m x]) (allRO_cons (hq.lendFact 0 rfl) (allRO_nil))) (hm.pick (own' := [] ++ [.blk b 24 [.slice A m c], .blk b2 63 [.pointer (some ⟨b3, 0, none⟩)], .blk b3 29 (Col.cells x2), .blk b4 52 [.func (.func 26) #[] #[]]]) [0, 1, 2, 3] rfl (by decide))) et5501
  refine wpl_call _ rfl rfl ht rfl rfl rfl rfl can_38 hcall ?_
  clear hcall
  rintro _ w ⟨rfl, hpost⟩ a ht
  replace hm := (hm.pick (own' := [] ++ [.blk b 24 [.slice A m c], .blk b2 63 [.pointer (some ⟨b3, 0, none⟩)], .blk b3 29 (Col.cells x2), .blk b4 52 [.func (.func 26) #[] #[]]]) [0, 1, 2, 3] rfl (by decide)).backL hpost
  clear hpost
  have hS : Ms X (fps [.blk b 24 [.slice A m c], .blk b2 63 [.pointer (some ⟨b3, 0, none⟩)], .blk b3 29 (Col.cells x2), .blk b4 52 [.func (.func 26) #[] #[]]]) w0 [.blk b 24 [.slice A m c], .blk b2 63 [.pointer (some ⟨b3, 0, none⟩)], .blk b3 29 (Col.cells x2), .blk b4 52 [.func (.func 26) #[] #[]]] [IntsAt A c m x] w := (hm.pick [0, 1, 2, 3] rfl (by decide)).pickφ [0] rfl
  refine wpList_nil (qn ⟨hS, ?_⟩)
  refine wph_take (i := 6) rfl (by kernel_rfl) (by kernel_rfl) (by kernel_rfl) (fun _ _ _ h => h) rfl ht hS (wanted_plain rfl) (fun w hm => ev_move ht rfl rfl) ?_
  intro a ht
  by_cases h6501 : t5501 = true
  · replace H := ite_yes h6501 H
    refine wph_take (i := 7) rfl (by kernel_rfl) (by kernel_rfl) (by kernel_rfl) (fun _ _ _ h => h) rfl ht hS (wanted_yes rfl ht rfl (h6501)) (fun w hm => ev_load ht rfl rfl sc_52 (hm.blk_cell 3 rfl rfl)) ?_
    intro a ht
    refine wph_one (i := 8) (by kernel_rfl) (wph_step rfl ?_)
    refine wpl_yes rfl ht rfl (h6501) ?_
    obtain ⟨t8501, et8501, H⟩ := bind_get H
    have hcall := impl_always.calls _ _ _ ((fun (hq : Ms _ _ _ ([] ++ [.blk b 24 [.slice A m c], .blk b2 63 [.pointer (some ⟨b3, 0, none⟩)], .blk b3 29 (Col.cells x2), .blk b4 52 [.func (.func 26) #[] #[]]]) _ _) => hq.lend (φp := []) (allRO_nil)) (hm.pick (own' := [] ++ [.blk b 24 [.slice A m c], .blk b2 63 [.pointer (some ⟨b3, 0, none⟩)], .blk b3 29 (Col.cells x2), .blk b4 52 [.func (.func 26) #[] #[]]]) [0, 1, 2, 3] rfl (by decide))) et8501
    refine wpl_call _ rfl rfl ht rfl rfl rfl rfl can_26 hcall ?_
    clear hcall
    rintro _ w ⟨rfl, hpost⟩ a ht
    replace hm := (hm.pick (own' := [] ++ [.blk b 24 [.slice A m c], .blk b2 63 [.pointer (some ⟨b3, 0, none⟩)], .blk b3 29 (Col.cells x2), .blk b4 52 [.func (.func 26) #[] #[]]]) [0, 1, 2, 3] rfl (by decide)).backL hpost
    clear hpost
    have hS : Ms X (fps [.blk b 24 [.slice A m c], .blk b2 63 [.pointer (some ⟨b3, 0, none⟩)], .blk b3 29 (Col.cells x2), .blk b4 52 [.func (.func 26) #[] #[]]]) w0 [.blk b 24 [.slice A m c], .blk b2 63 [.pointer (some ⟨b3, 0, none⟩)], .blk b3 29 (Col.cells x2), .blk b4 52 [.func (.func 26) #[] #[]]] [IntsAt A c m x] w := (hm.pick [0, 1, 2, 3] rfl (by decide)).pickφ [0] rfl
    refine wpList_nil (qn ⟨hS, ?_⟩)
    refine wph_take (i := 9) rfl (by kernel_rfl) (by kernel_rfl) (by kernel_rfl) (fun _ _ _ h => h) rfl ht hS (wanted_plain rfl) (fun w hm => ev_pick_yes ht rfl rfl h6501 rfl) ?_
    intro a ht
    refine wph_take (i := 10) rfl (by kernel_rfl) (by kernel_rfl) (by kernel_rfl) (fun _ _ _ h => h) rfl ht hS (wanted_plain rfl) (fun w hm => ev_assign ht rfl rfl) ?_
    intro a ht
    refine wph_done (by kernel_rfl) ?_
    refine then_normal ?_
    refine wp_ret ?_
    have hres := ht.res (P := Try.prog) (w := w) (rs := [.tmp 3]) (vs := [.bool t8501]) (.tmp rfl .nil)
    obtain rfl := Option.some.inj H
    exact leave ht rfl hres ⟨rfl, ((hm.pick [0, 1, 2, 3] rfl (by decide)).pickφ [] rfl).post fun _ h => h⟩
  · replace H := ite_no h6501 H
    refine wph_pass (i := 7) rfl (by kernel_rfl) (by kernel_rfl) (by kernel_rfl) (fun _ _ _ h => h) rfl ht hS (wanted_no rfl ht rfl (by rw [(Bool.eq_false_iff.mpr h6501)]; decide)) ?_
    intro a ht
    refine wph_pass (i := 8) rfl (by kernel_rfl) (by kernel_rfl) (by kernel_rfl) (fun _ _ _ h => h) rfl ht hS (wanted_no rfl ht rfl (by rw [(Bool.eq_false_iff.mpr h6501)]; decide)) ?_
    intro a ht
    refine wph_take (i := 9) rfl (by kernel_rfl) (by kernel_rfl) (by kernel_rfl) (fun _ _ _ h => h) rfl ht hS (wanted_plain rfl) (fun w hm => ev_pick_no ht rfl rfl (Bool.eq_false_iff.mpr h6501) rfl) ?_
    intro a ht
    refine wph_take (i := 10) rfl (by kernel_rfl) (by kernel_rfl) (by kernel_rfl) (fun _ _ _ h => h) rfl ht hS (wanted_plain rfl) (fun w hm => ev_assign ht rfl rfl) ?_
    intro a ht
    refine wph_done (by kernel_rfl) ?_
    refine then_normal ?_
    refine wp_ret ?_
    have hres := ht.res (P := Try.prog) (w := w) (rs := [.tmp 3]) (vs := [.bool false]) (.tmp rfl .nil)
    obtain rfl := Option.some.inj H
    exact leave ht rfl hres ⟨rfl, ((hm.pick [0, 1, 2, 3] rfl (by decide)).pickφ [] rfl).post fun _ h => h⟩

/-! ### impl_Colouring_code__Colouring_sizesCode_1__always: function 28 ((*loop.example/g01362/impl.Colouring).code) -/
def impl_Colouring_code__Colouring_sizesCode_1__always.f (k : Nat) (x : Col) (right : List Int) : Option (Int) := (impl_Colouring_isColouring.f k x).bind fun t1 => if t1 = true then ((impl_Colouring_sizesCode_1__always.f k right x).bind fun t3 => if t3 = true then (some 0) else (some 2)) else (some 1)
set_option maxRecDepth 100000 in
set_option maxHeartbeats 20000000 in
theorem impl_Colouring_code__Colouring_sizesCode_1__always.calls (k : Nat) (X : List Nat) (w0 : World) (b : Nat) (b2 : Nat) (A : Option Addr) (c : Nat) (m : Nat) (b3 : Nat) (b4 : Nat) (x : Col) (right : List Int) (r : Int)
    (hp : Pre X w0 [.blk b 29 (Col.cells x), .blk b2 24 [.slice A m c], .blk b3 63 [.pointer (some ⟨b, 0, none⟩)], .blk b4 52 [.func (.func 26) #[] #[]]] [IntsAt A c m right]) (H : impl_Colouring_code__Colouring_sizesCode_1__always.f k x right = some r) :
    Calls Try.prog 28 [.pointer (some ⟨b, 0, none⟩), .func (.func 37) [].toArray [.pointer (some ⟨b2, 0, none⟩), .pointer (some ⟨b3, 0, none⟩), .pointer (some ⟨b4, 0, none⟩)].toArray].toArray w0 (Ret fun v w => v = .int .i64 r ∧ Post X (fps [.blk b 29 (Col.cells x), .blk b2 24 [.slice A m c], .blk b3 63 [.pointer (some ⟨b, 0, none⟩)], .blk b4 52 [.func (.func 26) #[] #[]]]) w0 [.blk b 29 (Col.cells x), .blk b2 24 [.slice A m c], .blk b3 63 [.pointer (some ⟨b, 0, none⟩)], .blk b4 52 [.func (.func 26) #[] #[]]] [] w) := by
  unfold impl_Colouring_code__Colouring_sizesCode_1__always.f at H
  refine enterM (n := 13) hp Try.func28 rfl rfl (Nat.le_of_ble_eq_true rfl) fun a w ht hm => ?_
  refine wp_seq ?_
  refine wpr ?_
  refine wpl rfl rfl ht (ev_assign ht rfl rfl) ?_
  intro a ht
  refine wpList_nil ?_
  refine then_normal ?_
  refine wp_seq ?_
  refine wp_block ?_
  refine wp_seq ?_
  refine wpr ?_
  refine wpl rfl rfl ht (ev_move ht rfl rfl) ?_
  intro a ht
  obtain ⟨t1, et1, H⟩ := bind_get H
  have hcall := impl_Colouring_isColouring.calls k _ _ b x _ ((fun (hq : Ms _ _ _ ([.blk b 29 (Col.cells x)] ++ [.blk b2 24 [.slice A m c], .blk b3 63 [.pointer (some ⟨b, 0, none⟩)], .blk b4 52 [.func (.func 26) #[] #[]]]) _ _) => hq.lend (φp := []) (allRO_nil)) (hm.pick (own' := [.blk b 29 (Col.cells x)] ++ [.blk b2 24 [.slice A m c], .blk b3 63 [.pointer (some ⟨b, 0, none⟩)], .blk b4 52 [.func (.func 26) #[] #[]]]) [0, 1, 2, 3] rfl (by decide))) et1
  refine wpl_call _ rfl rfl ht rfl rfl rfl rfl can_40 hcall ?_
  clear hcall
  rintro _ w ⟨rfl, hpost⟩ a ht
  replace hm := (hm.pick (own' := [.blk b 29 (Col.cells x)] ++ [.blk b2 24 [.slice A m c], .blk b3 63 [.pointer (some ⟨b, 0, none⟩)], .blk b4 52 [.func (.func 26) #[] #[]]]) [0, 1, 2, 3] rfl (by decide)).backL hpost
  clear hpost
  refine wpl rfl rfl ht (ev_not ht rfl rfl) ?_
  intro a ht
  refine wpl rfl rfl ht (ev_assign ht rfl rfl) ?_
  intro a ht
  refine wpList_nil ?_
  refine then_normal ?_
  by_cases h2 : t1 = true
  · replace H := ite_yes h2 H
    refine wpc_no ht rfl (not_t h2) ?_
    refine wp_seq ?_
    refine wpr ?_
    refine wpl rfl rfl ht (ev_move ht rfl rfl) ?_
    intro a ht
    obtain ⟨t3, et3, H⟩ := bind_get H
    have hcall := impl_Colouring_sizesCode_1__always.calls k _ _ b2 A c m b3 b b4 right x _ ((fun (hq : Ms _ _ _ ([.blk b2 24 [.slice A m c], .blk b3 63 [.pointer (some ⟨b, 0, none⟩)], .blk b 29 (Col.cells x), .blk b4 52 [.func (.func 26) #[] #[]]] ++ []) _ _) => hq.lend (φp := [IntsAt A c m right]) (allRO_cons (hq.lendFact 0 rfl) (allRO_nil))) (hm.pick (own' := [.blk b2 24 [.slice A m c], .blk b3 63 [.pointer (some ⟨b, 0, none⟩)], .blk b 29 (Col.cells x), .blk b4 52 [.func (.func 26) #[] #[]]] ++ []) [1, 2, 0, 3] rfl (by decide))) et3
    refine wpl_call _ rfl rfl ht rfl rfl rfl rfl can_37 hcall ?_
    clear hcall
    rintro _ w ⟨rfl, hpost⟩ a ht
    replace hm := (hm.pick (own' := [.blk b2 24 [.slice A m c], .blk b3 63 [.pointer (some ⟨b, 0, none⟩)], .blk b 29 (Col.cells x), .blk b4 52 [.func (.func 26) #[] #[]]] ++ []) [1, 2, 0, 3] rfl (by decide)).backL hpost
    clear hpost
    refine wpl rfl rfl ht (ev_not ht rfl rfl) ?_
    intro a ht
    refine wpl rfl rfl ht (ev_assign ht rfl rfl) ?_
    intro a ht
    refine wpList_nil ?_
    refine then_normal ?_
    by_cases h4 : t3 = true
    · replace H := ite_yes h4 H
      refine wpc_no ht rfl (not_t h4) ?_
      refine wp_skip ?_
      refine blk_normal ?_
      refine then_normal ?_
      refine wp_seq ?_
      refine wpr ?_
      refine wpl rfl rfl ht (ev_assign ht rfl rfl) ?_
      intro a ht
      refine wpList_nil ?_
      refine then_normal ?_
      refine wp_ret ?_
      have hres := ht.res (P := Try.prog) (w := w) (rs := [.tmp 4]) (vs := [.int .i64 0]) (.tmp rfl .nil)
      obtain rfl := Option.some.inj H
      exact leave ht rfl hres ⟨rfl, ((hm.pick [2, 0, 1, 3] rfl (by decide)).pickφ [] rfl).post fun _ h => h⟩
    · replace H := ite_no h4 H
      refine wpc_yes ht rfl (not_f (Bool.eq_false_iff.mpr h4)) ?_
      refine wp_seq ?_
      refine wpr ?_
      refine wpl rfl rfl ht (ev_assign ht rfl rfl) ?_
      intro a ht
      refine wpList_nil ?_
      refine then_normal ?_
      refine wp_ret ?_
      refine blk_ret ?_
      refine then_ret ?_
      have hres := ht.res (P := Try.prog) (w := w) (rs := [.tmp 4]) (vs := [.int .i64 2]) (.tmp rfl .nil)
      obtain rfl := Option.some.inj H
      exact leave ht rfl hres ⟨rfl, ((hm.pick [2, 0, 1, 3] rfl (by decide)).pickφ [] rfl).post fun _ h => h⟩
  · replace H := ite_no h2 H
    refine wpc_yes ht rfl (not_f (Bool.eq_false_iff.mpr h2)) ?_
    refine wp_seq ?_
    refine wpr ?_
    refine wpl rfl rfl ht (ev_assign ht rfl rfl) ?_
    intro a ht
    refine wpList_nil ?_
    refine then_normal ?_
    refine wp_ret ?_
    refine blk_ret ?_
    refine then_ret ?_
    have hres := ht.res (P := Try.prog) (w := w) (rs := [.tmp 4]) (vs := [.int .i64 1]) (.tmp rfl .nil)
    obtain rfl := Option.some.inj H
    exact leave ht rfl hres ⟨rfl, ((hm.pick [0, 1, 2, 3] rfl (by decide)).pickφ [] rfl).post fun _ h => h⟩

/-! ### impl_Colouring_sizesCode__always: function 25 ((*loop.example/g01362/impl.Colouring).sizesCode) -/
def impl_Colouring_sizesCode__always.f (k : Nat) (x : Col) (sizes : List Int) : Option (Int) := (impl_Colouring_code__Colouring_sizesCode_1__always.f k x sizes).bind fun t4 => some t4
set_option maxRecDepth 100000 in
set_option maxHeartbeats 20000000 in
theorem impl_Colouring_sizesCode__always.calls (k : Nat) (X : List Nat) (w0 : World) (b : Nat) (A : Option Addr) (c : Nat) (m : Nat) (x : Col) (sizes : List Int) (r : Int)
    (hp : Pre X w0 [.blk b 29 (Col.cells x)] [IntsAt A c m sizes]) (H : impl_Colouring_sizesCode__always.f k x sizes = some r) :
    Calls Try.prog 25 [.pointer (some ⟨b, 0, none⟩), .slice A m c, .func (.func 26) #[] #[]].toArray w0 (Ret fun v w => v = .int .i64 r ∧ Post X (fps [.blk b 29 (Col.cells x)]) w0 [.blk b 29 (Col.cells x)] [] w) := by
  unfold impl_Colouring_sizesCode__always.f at H
  refine enterM (n := 10) hp Try.func25 rfl rfl (Nat.le_of_ble_eq_true rfl) fun a w ht hm => ?_
  refine wp_seq ?_
  refine wpr ?_
  refine wpl_box rfl rfl ht hm rfl rfl rfl ?_
  intro b1 a ht w hm
  refine wpl_box rfl rfl ht hm rfl rfl rfl ?_
  intro b2 a ht w hm
  refine wpl_box rfl rfl ht hm rfl rfl rfl ?_
  intro b3 a ht w hm
  refine wpl rfl rfl ht (ev_assign ht rfl rfl) ?_
  intro a ht
  refine wpList_nil ?_
  refine then_normal ?_
  refine wp_seq ?_
  refine wpr ?_
  refine wpl rfl rfl ht (ev_load ht rfl rfl sc_63 (hm.blk_cell 2 rfl rfl)) ?_
  intro a ht
  refine wpl rfl rfl ht (ev_makeFunc ht rfl rfl rfl) ?_
  intro a ht
  obtain ⟨t4, et4, H⟩ := bind_get H
  have hcall := impl_Colouring_code__Colouring_sizesCode_1__always.calls k _ _ b b2 A c m b1 b3 x sizes _ ((fun (hq : Ms _ _ _ ([.blk b 29 (Col.cells x), .blk b2 24 [.slice A m c], .blk b1 63 [.pointer (some ⟨b, 0, none⟩)], .blk b3 52 [.func (.func 26) #[] #[]]] ++ []) _ _) => hq.lend (φp := [IntsAt A c m sizes]) (allRO_cons (hq.lendFact 0 rfl) (allRO_nil))) (hm.pick (own' := [.blk b 29 (Col.cells x), .blk b2 24 [.slice A m c], .blk b1 63 [.pointer (some ⟨b, 0, none⟩)], .blk b3 52 [.func (.func 26) #[] #[]]] ++ []) [3, 1, 2, 0] rfl (by decide))) et4
  refine wpl_call _ rfl rfl ht rfl rfl rfl rfl can_28 hcall ?_
  clear hcall
  rintro _ w ⟨rfl, hpost⟩ a ht
  replace hm := (hm.pick (own' := [.blk b 29 (Col.cells x), .blk b2 24 [.slice A m c], .blk b1 63 [.pointer (some ⟨b, 0, none⟩)], .blk b3 52 [.func (.func 26) #[] #[]]] ++ []) [3, 1, 2, 0] rfl (by decide)).backL hpost
  clear hpost
  refine wpl rfl rfl ht (ev_assign ht rfl rfl) ?_
  intro a ht
  refine wpList_nil ?_
  refine then_normal ?_
  refine wp_ret ?_
  have hres := ht.res (P := Try.prog) (w := w) (rs := [.tmp 6]) (vs := [.int .i64 t4]) (.tmp rfl .nil)
  obtain rfl := Option.some.inj H
  exact leave ht rfl hres ⟨rfl, ((hm.pick [0] rfl (by decide)).pickφ [] rfl).post fun _ h => h⟩

/-! ### impl_AvoidsSizes: function 10 (loop.example/g01362/impl.AvoidsSizes) -/
def impl_AvoidsSizes.f (k : Nat) (x : Col) (sizes : List Int) : Option (Bool × Int) := (impl_Colouring_sizesCode__always.f k x sizes).bind fun t2 => if t2 ≠ 0 then (some (false, t2)) else ((impl_Colouring_avoids.f k x sizes).bind fun t4 => some (t4, 0))
set_option maxRecDepth 100000 in
set_option maxHeartbeats 20000000 in
theorem impl_AvoidsSizes.calls (k : Nat) (X : List Nat) (w0 : World) (A : Option Addr) (c : Nat) (m : Nat) (x : Col) (sizes : List Int) (r : Bool × Int)
    (hp : Pre X w0 [] [IntsAt A c m sizes]) (H : impl_AvoidsSizes.f k x sizes = some r) :
    Calls Try.prog 10 [.agg (Col.cells x).toArray, .slice A m c].toArray w0 (Ret fun v w => v = .tuple [.bool r.1, .int .i64 r.2].toArray ∧ Post X (fps []) w0 [] [] w) := by
  unfold impl_AvoidsSizes.f at H
  refine enterM (n := 14) hp Try.func10 rfl rfl (Nat.le_of_ble_eq_true rfl) fun a w ht hm => ?_
  refine wp_seq ?_
  refine wpr ?_
  refine wpl_box rfl rfl ht hm rfl rfl rfl ?_
  intro b1 a ht w hm
  refine wpl rfl rfl ht (ev_assign ht rfl rfl) ?_
  intro a ht
  refine wpl rfl rfl ht (ev_assign ht rfl rfl) ?_
  intro a ht
  refine wpList_nil ?_
  refine then_normal ?_
  refine wp_seq ?_
  refine wp_seq ?_
  refine wpr ?_
  refine wpl rfl rfl ht (ev_move ht rfl rfl) ?_
  intro a ht
  obtain ⟨t2, et2, H⟩ := bind_get H
  have hcall := impl_Colouring_sizesCode__always.calls k _ _ b1 A c m x sizes _ ((fun (hq : Ms _ _ _ ([.blk b1 29 (Col.cells x)] ++ []) _ _) => hq.lend (φp := [IntsAt A c m sizes]) (allRO_cons (hq.lendFact 0 rfl) (allRO_nil))) (hm.pick (own' := [.blk b1 29 (Col.cells x)] ++ []) [0] rfl (by decide))) et2
  refine wpl_call _ rfl rfl ht rfl rfl rfl rfl can_25 hcall ?_
  clear hcall
  rintro _ w ⟨rfl, hpost⟩ a ht
  replace hm := (hm.pick (own' := [.blk b1 29 (Col.cells x)] ++ []) [0] rfl (by decide)).backL hpost
  clear hpost
  refine wpl rfl rfl ht (ev_assign ht rfl rfl) ?_
  intro a ht
  refine wpList_nil ?_
  refine then_normal ?_
  refine wp_seq ?_
  refine wpr ?_
  refine wpl rfl rfl ht (ev_move ht rfl rfl) ?_
  intro a ht
  refine wpl rfl rfl ht (ev_cmp ht rfl rfl rfl rfl) ?_
  intro a ht
  refine wpList_nil ?_
  refine then_normal ?_
  by_cases h3 : t2 ≠ 0
  · replace H := ite_yes h3 H
    refine wpc_yes ht rfl (decide_eq_true h3) ?_
    refine wp_seq ?_
    refine wpr ?_
    refine wpl rfl rfl ht (ev_move ht rfl rfl) ?_
    intro a ht
    refine wpl rfl rfl ht (ev_assign ht rfl rfl) ?_
    intro a ht
    refine wpl rfl rfl ht (ev_assign ht rfl rfl) ?_
    intro a ht
    refine wpList_nil ?_
    refine then_normal ?_
    refine wp_ret ?_
    refine then_ret ?_
    have hres := ht.res (P := Try.prog) (w := w) (rs := [.tmp 4, .tmp 5]) (vs := [.bool false, .int .i64 t2]) (.tmp rfl (.tmp rfl .nil))
    obtain rfl := Option.some.inj H
    exact leave ht rfl hres ⟨rfl, ((hm.pick [] rfl (by decide)).pickφ [] rfl).post fun _ h => h⟩
  · replace H := ite_no h3 H
    refine wpc_no ht rfl (decide_eq_false h3) ?_
    refine wp_skip ?_
    refine then_normal ?_
    refine wp_seq ?_
    refine wpr ?_
    refine wpl rfl rfl ht (ev_move ht rfl rfl) ?_
    intro a ht
    obtain ⟨t4, et4, H⟩ := bind_get H
    have hcall := impl_Colouring_avoids.calls k _ _ b1 A c m x sizes _ ((fun (hq : Ms _ _ _ ([.blk b1 29 (Col.cells x)] ++ []) _ _) => hq.lend (φp := [IntsAt A c m sizes]) (allRO_cons (hq.lendFact 0 rfl) (allRO_nil))) (hm.pick (own' := [.blk b1 29 (Col.cells x)] ++ []) [0] rfl (by decide))) et4
    refine wpl_call _ rfl rfl ht rfl rfl rfl rfl can_27 hcall ?_
    clear hcall
    rintro _ w ⟨rfl, hpost⟩ a ht
    replace hm := (hm.pick (own' := [.blk b1 29 (Col.cells x)] ++ []) [0] rfl (by decide)).backL hpost
    clear hpost
    refine wpl rfl rfl ht (ev_assign ht rfl rfl) ?_
    intro a ht
    refine wpl rfl rfl ht (ev_assign ht rfl rfl) ?_
    intro a ht
    refine wpList_nil ?_
    refine then_normal ?_
    refine wp_ret ?_
    have hres := ht.res (P := Try.prog) (w := w) (rs := [.tmp 4, .tmp 5]) (vs := [.bool t4, .int .i64 0]) (.tmp rfl (.tmp rfl .nil))
    obtain rfl := Option.some.inj H
    exact leave ht rfl hres ⟨rfl, ((hm.pick [] rfl (by decide)).pickφ [] rfl).post fun _ h => h⟩

/-! ### impl_Colouring_code__always: function 28 ((*loop.example/g01362/impl.Colouring).code) -/
def impl_Colouring_code__always.f (k : Nat) (x : Col) : Option (Int) := (impl_Colouring_isColouring.f k x).bind fun t1 => if t1 = true then ((impl_always.f ).bind fun t3 => if t3 = true then (some 0) else (some 2)) else (some 1)
set_option maxRecDepth 100000 in
set_option maxHeartbeats 20000000 in
theorem impl_Colouring_code__always.calls (k : Nat) (X : List Nat) (w0 : World) (b : Nat) (x : Col) (r : Int)
    (hp : Pre X w0 [.blk b 29 (Col.cells x)] []) (H : impl_Colouring_code__always.f k x = some r) :
    Calls Try.prog 28 [.pointer (some ⟨b, 0, none⟩), .func (.func 26) #[] #[]].toArray w0 (Ret fun v w => v = .int .i64 r ∧ Post X (fps [.blk b 29 (Col.cells x)]) w0 [.blk b 29 (Col.cells x)] [] w) := by
  unfold impl_Colouring_code__always.f at H
  refine enterM (n := 13) hp Try.func28 rfl rfl (Nat.le_of_ble_eq_true rfl) fun a w ht hm => ?_
  refine wp_seq ?_
  refine wpr ?_
  refine wpl rfl rfl ht (ev_assign ht rfl rfl) ?_
  intro a ht
  refine wpList_nil ?_
  refine then_normal ?_
  refine wp_seq ?_
  refine wp_block ?_
  refine wp_seq ?_
  refine wpr ?_
  refine wpl rfl rfl ht (ev_move ht rfl rfl) ?_
  intro a ht
  obtain ⟨t1, et1, H⟩ := bind_get H
  have hcall := impl_Colouring_isColouring.calls k _ _ b x _ ((fun (hq : Ms _ _ _ ([.blk b 29 (Col.cells x)] ++ []) _ _) => hq.lend (φp := []) (allRO_nil)) (hm.pick (own' := [.blk b 29 (Col.cells x)] ++ []) [0] rfl (by decide))) et1
  refine wpl_call _ rfl rfl ht rfl rfl rfl rfl can_40 hcall ?_
  clear hcall
  rintro _ w ⟨rfl, hpost⟩ a ht
  replace hm := (hm.pick (own' := [.blk b 29 (Col.cells x)] ++ []) [0] rfl (by decide)).backL hpost
  clear hpost
  refine wpl rfl rfl ht (ev_not ht rfl rfl) ?_
  intro a ht
  refine wpl rfl rfl ht (ev_assign ht rfl rfl) ?_
  intro a ht
  refine wpList_nil ?_
  refine then_normal ?_
  by_cases h2 : t1 = true
  · replace H := ite_yes h2 H
    refine wpc_no ht rfl (not_t h2) ?_
    refine wp_seq ?_
    refine wpr ?_
    refine wpl rfl rfl ht (ev_move ht rfl rfl) ?_
    intro a ht
    obtain ⟨t3, et3, H⟩ := bind_get H
    have hcall := impl_always.calls _ _ _ ((fun (hq : Ms _ _ _ ([] ++ [.blk b 29 (Col.cells x)]) _ _) => hq.lend (φp := []) (allRO_nil)) (hm.pick (own' := [] ++ [.blk b 29 (Col.cells x)]) [0] rfl (by decide))) et3
    refine wpl_call _ rfl rfl ht rfl rfl rfl rfl can_26 hcall ?_
    clear hcall
    rintro _ w ⟨rfl, hpost⟩ a ht
    replace hm := (hm.pick (own' := [] ++ [.blk b 29 (Col.cells x)]) [0] rfl (by decide)).backL hpost
    clear hpost
    refine wpl rfl rfl ht (ev_not ht rfl rfl) ?_
    intro a ht
    refine wpl rfl rfl ht (ev_assign ht rfl rfl) ?_
    intro a ht
    refine wpList_nil ?_
    refine then_normal ?_
    by_cases h4 : t3 = true
    · replace H := ite_yes h4 H
      refine wpc_no ht rfl (not_t h4) ?_
      refine wp_skip ?_
      refine blk_normal ?_
      refine then_normal ?_
      refine wp_seq ?_
      refine wpr ?_
      refine wpl rfl rfl ht (ev_assign ht rfl rfl) ?_
      intro a ht
      refine wpList_nil ?_
      refine then_normal ?_
      refine wp_ret ?_
      have hres := ht.res (P := Try.prog) (w := w) (rs := [.tmp 4]) (vs := [.int .i64 0]) (.tmp rfl .nil)
      obtain rfl := Option.some.inj H
      exact leave ht rfl hres ⟨rfl, ((hm.pick [0] rfl (by decide)).pickφ [] rfl).post fun _ h => h⟩
    · replace H := ite_no h4 H
      refine wpc_yes ht rfl (not_f (Bool.eq_false_iff.mpr h4)) ?_
      refine wp_seq ?_
      refine wpr ?_
      refine wpl rfl rfl ht (ev_assign ht rfl rfl) ?_
      intro a ht
      refine wpList_nil ?_
      refine then_normal ?_
      refine wp_ret ?_
      refine blk_ret ?_
      refine then_ret ?_
      have hres := ht.res (P := Try.prog) (w := w) (rs := [.tmp 4]) (vs := [.int .i64 2]) (.tmp rfl .nil)
      obtain rfl := Option.some.inj H
      exact leave ht rfl hres ⟨rfl, ((hm.pick [0] rfl (by decide)).pickφ [] rfl).post fun _ h => h⟩
  · replace H := ite_no h2 H
    refine wpc_yes ht rfl (not_f (Bool.eq_false_iff.mpr h2)) ?_
    refine wp_seq ?_
    refine wpr ?_
    refine wpl rfl rfl ht (ev_assign ht rfl rfl) ?_
    intro a ht
    refine wpList_nil ?_
    refine then_normal ?_
    refine wp_ret ?_
    refine blk_ret ?_
    refine then_ret ?_
    have hres := ht.res (P := Try.prog) (w := w) (rs := [.tmp 4]) (vs := [.int .i64 1]) (.tmp rfl .nil)
    obtain rfl := Option.some.inj H
    exact leave ht rfl hres ⟨rfl, ((hm.pick [0] rfl (by decide)).pickφ [] rfl).post fun _ h => h⟩

end Go.Proofs.Ytkceneefhbdifaa.G
