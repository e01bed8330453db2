/- What each Go function computes, as a Lean function, and the proof that it does: written by a program of this session (wip/gen), part 3. -/
import Derived.Test.YtocjhmeekecdiaaGFnExactIsExtension2
namespace Go.Proofs.Ytocjhmeekecdiaa.G
open Go Go.RowKit Go.Proofs.Ytocjhmeekecdiaa.K
set_option linter.unusedVariables false
set_option linter.unusedSimpArgs false

/-! ### spec_l01Put: function 38 (loop.example/g01362/spec.l01Put) -/
def spec_l01Put.l0 : Nat → List Int → Col → Int → Option (Col)
  | 0, _, _, _ => none
  | q3 + 1, colours, xs0_1, xs0_2 => if xs0_2 < (colours.length : Int) then ((getI colours xs0_2).bind fun t5 => (spec_l01Edge.f xs0_2 (w64 (xs0_1.p - 1))).bind fun t6 => (getB 136 xs0_1.e t6).bind fun t7 => spec_l01Put.l0 q3 colours (Col.setE xs0_1 t6.toNat (w8 t5)) (w64 (xs0_2 + 1))) else (some xs0_1)
def spec_l01Put.f (k : Nat) (x : Col) (colours : List Int) : Option (Col) := spec_l01Put.l0 k colours (Col.setP x (w64 (x.p + 1))) 0
set_option maxRecDepth 100000 in
set_option maxHeartbeats 1000000 in
theorem spec_l01Put.calls (k : Nat) (X : List Nat) (w0 : World) (A : Option Addr) (c : Nat) (m : Nat) (x : Col) (colours : List Int) (r : Col)
    (hp : Pre X w0 [] [IntsAt A c m colours]) (H : spec_l01Put.f k x colours = some r) :
    Calls Try.prog 38 [.agg (Col.cells x).toArray, .slice A m c].toArray w0 (Ret fun v w => v = .agg (Col.cells r).toArray ∧ Post X (fps []) w0 [] [] w) := by
  unfold spec_l01Put.f at H
  refine enterM (n := 29) hp Try.func38 rfl rfl (Nat.le_of_ble_eq_true rfl) fun a w ht hm => ?_
  refine wp_seq ?_
  refine wpr ?_
  refine wpl_box rfl rfl ht hm rfl rfl rfl ?_
  intro b1 a ht w hm
  refine wpl_alloc rfl rfl ht hm rfl zo_28 ?_
  intro b2 a ht w hm
  refine wpList_nil ?_
  refine then_normal ?_
  refine wp_seq ?_
  refine wpr ?_
  refine wpl rfl rfl ht (ev_fieldAddr ht rfl rfl fo_28_0) ?_
  intro a ht
  refine wpl rfl rfl ht (ev_load ht rfl rfl sc_2 (hm.blk_cell 1 rfl rfl)) ?_
  intro a ht
  refine wpl rfl rfl ht (ev_arith ht rfl rfl rfl rfl) ?_
  intro a ht
  refine wpl rfl rfl ht (ev_fieldAddr ht rfl rfl fo_28_0) ?_
  intro a ht
  refine wpl_store_blk 1 rfl rfl ht hm rfl rfl rfl sz1_2 rfl rfl rfl ?_
  intro a ht w hm
  refine wpList_nil ?_
  refine then_normal ?_
  refine wp_seq ?_
  refine wp_seq ?_
  refine wpr ?_
  refine wpl rfl rfl ht (ev_assign ht rfl rfl) ?_
  intro a ht
  refine wpList_nil ?_
  refine then_normal ?_
  refine wp_block ?_
  refine wpLoop (fun q a w => ∃ (xs0_1 : Col) (xs0_2 : Int), spec_l01Put.l0 q colours xs0_1 xs0_2 = some r ∧ q ≤ k ∧ Tm 29 [(1, .slice A m c), (2, .pointer (some ⟨b1, 0, none⟩)), (4, .pointer (some ⟨b2, 0, none⟩)), (5, .int .i64 xs0_2)] a ∧ Ms X (fps []) w0 [.blk b2 28 (Col.cells Col.zero), .blk b1 28 (Col.cells xs0_1)] [IntsAt A c m colours] w) (k0 := k) ⟨(Col.setP x (w64 (x.p + 1))), 0, H, Nat.le_refl _, ht.sub ⟨rfl, rfl, rfl, rfl, trivial⟩, (hm.pick [0, 1] rfl (by decide)).pickφ [0] rfl⟩ ?_
  clear H ht hm
  intro q3 a w hJ
  obtain ⟨xs0_1, xs0_2, H, hqq3, ht, hm⟩ := hJ
  cases q3 with
  | zero => cases H
  | succ q3 =>
  rw [spec_l01Put.l0] at H
  refine wp_seq ?_
  refine wp_seq ?_
  refine wpr ?_
  refine wpl rfl rfl ht (ev_move ht rfl rfl) ?_
  intro a ht
  refine wpl rfl rfl ht (ev_move ht rfl rfl) ?_
  intro a ht
  refine wpl rfl rfl ht (ev_len_of ht rfl rfl und_25 (hm.fact (φ := IntsAt A c m colours) 0 rfl)) ?_
  intro a ht
  refine wpl rfl rfl ht (ev_cmp ht rfl rfl rfl rfl) ?_
  intro a ht
  refine wpList_nil ?_
  refine then_normal ?_
  by_cases h4 : xs0_2 < (colours.length : Int)
  · replace H := ite_yes h4 H
    refine wpc_yes ht rfl (decide_eq_true h4) ?_
    refine wp_skip ?_
    refine then_normal ?_
    refine wp_seq ?_
    refine wp_block ?_
    refine wph_begin (fun w => Ms X (fps []) w0 [.blk b2 28 (Col.cells Col.zero)] [IntsAt A c m colours] w) mixed ?_
    replace hm := hm.drew
    have hS : Ms X (fps []) w0 [.blk b2 28 (Col.cells Col.zero)] [IntsAt A c m colours] w.drew := (hm.pick [0] rfl (by decide)).pickφ [0] rfl
    generalize w.drew = w at hm hS ⊢
    refine wph_take (i := 0) rfl (by kernel_rfl) (by kernel_rfl) (by kernel_rfl) (fun _ _ _ h => h) rfl ht hS (wanted_plain rfl) (fun w hm => ev_move ht rfl rfl) ?_
    intro a ht
    refine wph_take (i := 1) rfl (by kernel_rfl) (by kernel_rfl) (by kernel_rfl) (fun _ _ _ h => h) rfl ht hS (wanted_plain rfl) (fun w hm => ev_fieldAddr ht rfl rfl fo_28_0) ?_
    intro a ht
    refine wph_take (i := 5) rfl (by kernel_rfl) (by kernel_rfl) (by kernel_rfl) (fun _ _ _ h => h) rfl ht hS (wanted_plain rfl) (fun w hm => ev_move ht rfl rfl) ?_
    intro a ht
    refine wph_take (i := 6) rfl (by kernel_rfl) (by kernel_rfl) (by kernel_rfl) (fun _ _ _ h => h) rfl ht hS (wanted_plain rfl) (fun w hm => ev_move ht rfl rfl) ?_
    intro a ht
    obtain ⟨t5, et5, H⟩ := bind_get H
    refine wph_take (i := 7) rfl (by kernel_rfl) (by kernel_rfl) (by kernel_rfl) (fun _ _ _ h => h) rfl ht hS (wanted_plain rfl) (fun w hm => ev_index_ints ht rfl rfl rfl so_25 (hm.fact (φ := IntsAt A c m colours) 0 rfl) et5) ?_
    intro a ht
    refine wph_take (i := 8) rfl (by kernel_rfl) (by kernel_rfl) (by kernel_rfl) (fun _ _ _ h => h) rfl ht hS (wanted_plain rfl) (fun w hm => ev_load ht rfl rfl sc_2 (RowAt.cell (hm.fact (φ := IntsAt A c m colours) 0 rfl) (ints_get et5) rfl)) ?_
    intro a ht
    refine wph_take (i := 9) rfl (by kernel_rfl) (by kernel_rfl) (by kernel_rfl) (fun _ _ _ h => h) rfl ht hS (wanted_plain rfl) (fun w hm => ev_convert ht rfl rfl und_2 und_5) ?_
    intro a ht
    refine wph_take (i := 10) rfl (by kernel_rfl) (by kernel_rfl) (by kernel_rfl) (fun _ _ _ h => h) rfl ht hS (wanted_plain rfl) (fun w hm => ev_fieldAddr ht rfl rfl fo_28_2) ?_
    intro a ht
    refine wph_one (i := 2) (by kernel_rfl) (wph_step rfl ?_)
    refine wpl rfl rfl ht (ev_load ht rfl rfl sc_2 (hm.blk_cell 1 rfl rfl)) ?_
    intro a ht
    have hS : Ms X (fps []) w0 [.blk b2 28 (Col.cells Col.zero)] [IntsAt A c m colours] w := (hm.pick [0] rfl (by decide)).pickφ [0] rfl
    refine wpList_nil (qn ⟨hS, ?_⟩)
    refine wph_take (i := 3) rfl (by kernel_rfl) (by kernel_rfl) (by kernel_rfl) (fun _ _ _ h => h) rfl ht hS (wanted_plain rfl) (fun w hm => ev_arith ht rfl rfl rfl rfl) ?_
    intro a ht
    refine wph_one (i := 4) (by kernel_rfl) (wph_step rfl ?_)
    obtain ⟨t6, et6, H⟩ := bind_get H
    have hcall := spec_l01Edge.calls _ _ xs0_2 (w64 (xs0_1.p - 1)) _ ((fun (hq : Ms _ _ _ ([] ++ [.blk b2 28 (Col.cells Col.zero), .blk b1 28 (Col.cells xs0_1)]) _ _) => hq.lend (φp := []) (allRO_nil)) (hm.pick (own' := [] ++ [.blk b2 28 (Col.cells Col.zero), .blk b1 28 (Col.cells xs0_1)]) [0, 1] rfl (by decide))) et6
    refine wpl_call _ rfl rfl ht rfl rfl rfl rfl can_63 hcall ?_
    clear hcall
    rintro _ w ⟨rfl, hpost⟩ a ht
    replace hm := (hm.pick (own' := [] ++ [.blk b2 28 (Col.cells Col.zero), .blk b1 28 (Col.cells xs0_1)]) [0, 1] rfl (by decide)).backL hpost
    clear hpost
    have hS : Ms X (fps []) w0 [.blk b2 28 (Col.cells Col.zero)] [IntsAt A c m colours] w := (hm.pick [0] rfl (by decide)).pickφ [0] rfl
    refine wpList_nil (qn ⟨hS, ?_⟩)
    obtain ⟨t7, et7, H⟩ := bind_get H
    refine wph_take (i := 11) rfl (by kernel_rfl) (by kernel_rfl) (by kernel_rfl) (fun _ _ _ h => h) rfl ht hS (wanted_plain rfl) (fun w hm => ev_indexAddr_arr ht rfl rfl rfl ar_22 (getB_lo et7) (getB_hi et7)) ?_
    intro a ht
    refine wph_one (i := 12) (by kernel_rfl) (wph_step rfl ?_)
    refine wpl_store_colE 1 rfl rfl ht hm rfl rfl rfl sz1_5 rfl et7 ?_
    intro a ht w hm
    have hS : Ms X (fps []) w0 [.blk b2 28 (Col.cells Col.zero)] [IntsAt A c m colours] w := (hm.pick [0] rfl (by decide)).pickφ [0] rfl
    refine wpList_nil (qn ⟨hS, ?_⟩)
    refine wph_done (by kernel_rfl) ?_
    refine blk_normal ?_
    refine then_normal ?_
    refine wpr ?_
    refine wpl rfl rfl ht (ev_move ht rfl rfl) ?_
    intro a ht
    refine wpl rfl rfl ht (ev_arith ht rfl rfl rfl rfl) ?_
    intro a ht
    refine wpl rfl rfl ht (ev_assign ht rfl rfl) ?_
    intro a ht
    refine wpList_nil ?_
    exact then_normal ⟨q3, by omega, (Col.setE xs0_1 t6.toNat (w8 t5)), (w64 (xs0_2 + 1)), H, by omega, ht.sub ⟨rfl, rfl, rfl, rfl, trivial⟩, (hm.pick [0, 1] rfl (by decide)).pickφ [0] rfl⟩
  · replace H := ite_no h4 H
    refine wpc_no ht rfl (decide_eq_false h4) ?_
    refine wp_exit ?_
    refine then_exit ?_
    refine then_exit ?_
    refine blk_hit ?_
    refine then_normal ?_
    refine wp_seq ?_
    refine wpr ?_
    refine wpl rfl rfl ht (ev_load_agg ht rfl rfl (ag_28.trans (by first | rw [Col.length_cells] | rfl)) (hm.blk_all 1 rfl)) ?_
    intro a ht
    refine wpl_store_whole 0 rfl rfl ht hm rfl rfl rfl (szn_28.trans (by first | rw [Col.length_cells] | rfl)) rfl (by simp only [Col.length_cells]) (Col.cells_one _) ?_
    intro a ht w hm
    refine wpList_nil ?_
    refine then_normal ?_
    refine wp_ret ?_
    have hres := ht.res (P := Try.prog) (w := w) (rs := [.cell 4 28]) (vs := [.agg (Col.cells xs0_1).toArray]) (.agg rfl (ag_28.trans (by first | rw [Col.length_cells] | rfl)) (hm.blk_all 0 rfl) .nil)
    obtain rfl := Option.some.inj H
    exact leave ht rfl hres ⟨rfl, ((hm.pick [] rfl (by decide)).pickφ [] rfl).post fun _ h => h⟩

/-! ### spec_IsExtension: function 16 (loop.example/g01362/spec.IsExtension) -/
def spec_IsExtension.f (k : Nat) (x : Col) (sizes : List Int) (colours : List Int) : Option (Bool × Int) := (spec_l05Code.f k x sizes).bind fun t2 => if t2 = 0 then (if (colours.length : Int) ≠ x.p then (some (false, 2)) else ((spec_l01All.f k colours x.k).bind fun t5 => if t5 = true then ((spec_l05Avoids.f k x sizes).bind fun t7 => if t7 = true then (if x.p = 17 then (some (false, 3)) else ((spec_l01Put.f k x colours).bind fun t10 => (spec_l05Avoids.f k t10 sizes).bind fun t11 => some (t11, 0))) else (some (false, 5))) else (some (false, 2)))) else (some (false, t2))
set_option maxRecDepth 100000 in
set_option maxHeartbeats 1000000 in
theorem spec_IsExtension.calls (k : Nat) (X : List Nat) (w0 : World) (A : Option Addr) (c : Nat) (m : Nat) (A2 : Option Addr) (c2 : Nat) (m2 : Nat) (x : Col) (sizes : List Int) (colours : List Int) (r : Bool × Int)
    (hp : Pre X w0 [] [IntsAt A c m sizes, IntsAt A2 c2 m2 colours]) (H : spec_IsExtension.f k x sizes colours = some r) :
    Calls Try.prog 16 [.agg (Col.cells x).toArray, .slice A m c, .slice A2 m2 c2].toArray w0 (Ret fun v w => v = .tuple [.bool r.1, .int .i64 r.2].toArray ∧ Post X (fps []) w0 [] [] w) := by
  unfold spec_IsExtension.f at H
  refine enterM (n := 51) hp Try.func16 rfl rfl (Nat.le_of_ble_eq_true rfl) fun a w ht hm => ?_
  refine wp_seq ?_
  refine wpr ?_
  refine wpl_box rfl rfl ht hm rfl rfl rfl ?_
  intro b1 a ht w hm
  refine wpl rfl rfl ht (ev_assign ht rfl rfl) ?_
  intro a ht
  refine wpl rfl rfl ht (ev_assign ht rfl rfl) ?_
  intro a ht
  refine wpList_nil ?_
  refine then_normal ?_
  refine wp_seq ?_
  refine wpr ?_
  refine wpl rfl rfl ht (ev_load_agg ht rfl rfl (ag_28.trans (by first | rw [Col.length_cells] | rfl)) (hm.blk_all 0 rfl)) ?_
  intro a ht
  refine wpl rfl rfl ht (ev_move ht rfl rfl) ?_
  intro a ht
  obtain ⟨t2, et2, H⟩ := bind_get H
  have hcall := spec_l05Code.calls k _ _ A c m x sizes _ ((fun (hq : Ms _ _ _ ([] ++ [.blk b1 28 (Col.cells x)]) _ _) => hq.lend (φp := [IntsAt A c m sizes]) (allRO_cons (hq.lendFact 0 rfl) (allRO_nil))) (hm.pick (own' := [] ++ [.blk b1 28 (Col.cells x)]) [0] rfl (by decide))) et2
  refine wpl_call _ rfl rfl ht rfl rfl rfl rfl can_35 hcall ?_
  clear hcall
  rintro _ w ⟨rfl, hpost⟩ a ht
  replace hm := (hm.pick (own' := [] ++ [.blk b1 28 (Col.cells x)]) [0] rfl (by decide)).backL hpost
  clear hpost
  refine wpl rfl rfl ht (ev_assign ht rfl rfl) ?_
  intro a ht
  refine wpList_nil ?_
  refine then_normal ?_
  refine wp_seq ?_
  refine wp_seq ?_
  refine wpr ?_
  refine wpl rfl rfl ht (ev_move ht rfl rfl) ?_
  intro a ht
  refine wpl rfl rfl ht (ev_cmp ht rfl rfl rfl rfl) ?_
  intro a ht
  refine wpl rfl rfl ht (ev_move ht rfl rfl) ?_
  intro a ht
  by_cases h3 : t2 = 0
  · replace H := ite_yes h3 H
    refine wpl_yes rfl ht rfl ((decide_eq_true h3)) ?_
    refine wpl rfl rfl ht (ev_move ht rfl rfl) ?_
    intro a ht
    refine wpl_yes rfl ht rfl ((decide_eq_true h3)) ?_
    refine wpl rfl rfl ht (ev_len_of ht rfl rfl und_25 (hm.fact (φ := IntsAt A2 c2 m2 colours) 1 rfl)) ?_
    intro a ht
    refine wpl_yes rfl ht rfl ((decide_eq_true h3)) ?_
    refine wpl rfl rfl ht (ev_fieldAddr ht rfl rfl fo_28_0) ?_
    intro a ht
    refine wpl_yes rfl ht rfl ((decide_eq_true h3)) ?_
    refine wpl rfl rfl ht (ev_load ht rfl rfl sc_2 (hm.blk_cell 0 rfl rfl)) ?_
    intro a ht
    refine wpl_yes rfl ht rfl ((decide_eq_true h3)) ?_
    refine wpl rfl rfl ht (ev_cmp ht rfl rfl rfl rfl) ?_
    intro a ht
    refine wpl_yes rfl ht rfl ((decide_eq_true h3)) ?_
    refine wpl rfl rfl ht (ev_move ht rfl rfl) ?_
    intro a ht
    by_cases h4 : (colours.length : Int) ≠ x.p
    · replace H := ite_yes h4 H
      refine wpl_no rfl rfl ht rfl (by rw [(decide_eq_true h4)]; decide) ?_
      intro a ht
      refine wpl_no rfl rfl ht rfl (by rw [(decide_eq_true h4)]; decide) ?_
      intro a ht
      refine wpl_no rfl rfl ht rfl (by rw [(decide_eq_true h4)]; decide) ?_
      intro a ht
      refine wpl_no rfl rfl ht rfl (by rw [(decide_eq_true h4)]; decide) ?_
      intro a ht
      refine wpl_no rfl rfl ht rfl (by rw [(decide_eq_true h4)]; decide) ?_
      intro a ht
      refine wpl_yes rfl ht rfl ((decide_eq_true h3)) ?_
      refine wpl rfl rfl ht (ev_pick_yes ht rfl rfl (decide_eq_true h4) rfl) ?_
      intro a ht
      refine wpl rfl rfl ht (ev_pick_yes ht rfl rfl (decide_eq_true h3) rfl) ?_
      intro a ht
      refine wpList_nil ?_
      refine then_normal ?_
      refine wpc_yes ht rfl rfl ?_
      refine wpr ?_
      refine wpl rfl rfl ht (ev_assign ht rfl rfl) ?_
      intro a ht
      refine wpList_nil ?_
      refine then_normal ?_
      refine wp_seq ?_
      refine wp_seq ?_
      refine wpr ?_
      refine wpl rfl rfl ht (ev_move ht rfl rfl) ?_
      intro a ht
      refine wpl rfl rfl ht (ev_cmp (r := false) ht rfl rfl rfl (by decide)) ?_
      intro a ht
      refine wpl rfl rfl ht (ev_move ht rfl rfl) ?_
      intro a ht
      refine wpl_no rfl rfl ht rfl (by decide) ?_
      intro a ht
      refine wpl_no rfl rfl ht rfl (by decide) ?_
      intro a ht
      refine wpl_no rfl rfl ht rfl (by decide) ?_
      intro a ht
      refine wpl_no rfl rfl ht rfl (by decide) ?_
      intro a ht
      refine wpl rfl rfl ht (ev_pick_no ht rfl rfl rfl rfl) ?_
      intro a ht
      refine wpList_nil ?_
      refine then_normal ?_
      refine wpc_no ht rfl rfl ?_
      refine wp_skip ?_
      refine then_normal ?_
      refine wp_seq ?_
      refine wp_seq ?_
      refine wpr ?_
      refine wpl rfl rfl ht (ev_move ht rfl rfl) ?_
      intro a ht
      refine wpl rfl rfl ht (ev_cmp (r := false) ht rfl rfl rfl (by decide)) ?_
      intro a ht
      refine wpl rfl rfl ht (ev_move ht rfl rfl) ?_
      intro a ht
      refine wpl_no rfl rfl ht rfl (by decide) ?_
      intro a ht
      refine wpl_no rfl rfl ht rfl (by decide) ?_
      intro a ht
      refine wpl_no rfl rfl ht rfl (by decide) ?_
      intro a ht
      refine wpl rfl rfl ht (ev_pick_no ht rfl rfl rfl rfl) ?_
      intro a ht
      refine wpList_nil ?_
      refine then_normal ?_
      refine wpc_no ht rfl rfl ?_
      refine wp_skip ?_
      refine then_normal ?_
      refine wp_seq ?_
      refine wp_seq ?_
      refine wpr ?_
      refine wpl rfl rfl ht (ev_move ht rfl rfl) ?_
      intro a ht
      refine wpl rfl rfl ht (ev_cmp (r := true) ht rfl rfl rfl (by decide)) ?_
      intro a ht
      refine wpList_nil ?_
      refine then_normal ?_
      refine wpc_yes ht rfl rfl ?_
      refine wp_seq ?_
      refine wpr ?_
      refine wpl rfl rfl ht (ev_move ht rfl rfl) ?_
      intro a ht
      refine wpl rfl rfl ht (ev_assign ht rfl rfl) ?_
      intro a ht
      refine wpl rfl rfl ht (ev_assign ht rfl rfl) ?_
      intro a ht
      refine wpList_nil ?_
      refine then_normal ?_
      refine wp_ret ?_
      refine then_ret ?_
      have hres := ht.res (P := Try.prog) (w := w) (rs := [.tmp 6, .tmp 7]) (vs := [.bool false, .int .i64 2]) (.tmp rfl (.tmp rfl .nil))
      obtain rfl := Option.some.inj H
      exact leave ht rfl hres ⟨rfl, ((hm.pick [] rfl (by decide)).pickφ [] rfl).post fun _ h => h⟩
    · replace H := ite_no h4 H
      refine wpl_yes rfl ht rfl ((decide_eq_false h4)) ?_
      refine wpl rfl rfl ht (ev_move ht rfl rfl) ?_
      intro a ht
      refine wpl_yes rfl ht rfl ((decide_eq_false h4)) ?_
      refine wpl rfl rfl ht (ev_fieldAddr ht rfl rfl fo_28_1) ?_
      intro a ht
      refine wpl_yes rfl ht rfl ((decide_eq_false h4)) ?_
      refine wpl rfl rfl ht (ev_load ht rfl rfl sc_2 (hm.blk_cell 0 rfl rfl)) ?_
      intro a ht
      refine wpl_yes rfl ht rfl ((decide_eq_false h4)) ?_
      obtain ⟨t5, et5, H⟩ := bind_get H
      have hcall := spec_l01All.calls k _ _ A2 c2 m2 colours x.k _ ((fun (hq : Ms _ _ _ ([] ++ [.blk b1 28 (Col.cells x)]) _ _) => hq.lend (φp := [IntsAt A2 c2 m2 colours]) (allRO_cons (hq.lendFact 1 rfl) (allRO_nil))) (hm.pick (own' := [] ++ [.blk b1 28 (Col.cells x)]) [0] rfl (by decide))) et5
      refine wpl_call _ rfl rfl ht rfl rfl rfl rfl can_36 hcall ?_
      clear hcall
      rintro _ w ⟨rfl, hpost⟩ a ht
      replace hm := (hm.pick (own' := [] ++ [.blk b1 28 (Col.cells x)]) [0] rfl (by decide)).backL hpost
      clear hpost
      refine wpl_yes rfl ht rfl ((decide_eq_false h4)) ?_
      refine wpl rfl rfl ht (ev_not ht rfl rfl) ?_
      intro a ht
      refine wpl_yes rfl ht rfl ((decide_eq_true h3)) ?_
      refine wpl rfl rfl ht (ev_pick_no ht rfl rfl (decide_eq_false h4) rfl) ?_
      intro a ht
      refine wpl rfl rfl ht (ev_pick_yes ht rfl rfl (decide_eq_true h3) rfl) ?_
      intro a ht
      refine wpList_nil ?_
      refine then_normal ?_
      by_cases h6 : t5 = true
      · replace H := ite_yes h6 H
        refine wpc_no ht rfl (not_t h6) ?_
        refine wp_skip ?_
        refine then_normal ?_
        refine wp_seq ?_
        refine wp_seq ?_
        refine wpr ?_
        refine wpl rfl rfl ht (ev_move ht rfl rfl) ?_
        intro a ht
        refine wpl rfl rfl ht (ev_cmp ht rfl rfl rfl rfl) ?_
        intro a ht
        refine wpl rfl rfl ht (ev_move ht rfl rfl) ?_
        intro a ht
        refine wpl_yes rfl ht rfl ((decide_eq_true h3)) ?_
        refine wpl rfl rfl ht (ev_load_agg ht rfl rfl (ag_28.trans (by first | rw [Col.length_cells] | rfl)) (hm.blk_all 0 rfl)) ?_
        intro a ht
        refine wpl_yes rfl ht rfl ((decide_eq_true h3)) ?_
        refine wpl rfl rfl ht (ev_move ht rfl rfl) ?_
        intro a ht
        refine wpl_yes rfl ht rfl ((decide_eq_true h3)) ?_
        obtain ⟨t7, et7, H⟩ := bind_get H
        have hcall := spec_l05Avoids.calls k _ _ A c m x sizes _ ((fun (hq : Ms _ _ _ ([] ++ [.blk b1 28 (Col.cells x)]) _ _) => hq.lend (φp := [IntsAt A c m sizes]) (allRO_cons (hq.lendFact 0 rfl) (allRO_nil))) (hm.pick (own' := [] ++ [.blk b1 28 (Col.cells x)]) [0] rfl (by decide))) et7
        refine wpl_call _ rfl rfl ht rfl rfl rfl rfl can_37 hcall ?_
        clear hcall
        rintro _ w ⟨rfl, hpost⟩ a ht
        replace hm := (hm.pick (own' := [] ++ [.blk b1 28 (Col.cells x)]) [0] rfl (by decide)).backL hpost
        clear hpost
        refine wpl_yes rfl ht rfl ((decide_eq_true h3)) ?_
        refine wpl rfl rfl ht (ev_not ht rfl rfl) ?_
        intro a ht
        refine wpl rfl rfl ht (ev_pick_yes ht rfl rfl (decide_eq_true h3) rfl) ?_
        intro a ht
        refine wpList_nil ?_
        refine then_normal ?_
        by_cases h8 : t7 = true
        · replace H := ite_yes h8 H
          refine wpc_no ht rfl (not_t h8) ?_
          refine wp_skip ?_
          refine then_normal ?_
          refine wp_seq ?_
          refine wp_seq ?_
          refine wpr ?_
          refine wpl rfl rfl ht (ev_move ht rfl rfl) ?_
          intro a ht
          refine wpl rfl rfl ht (ev_cmp ht rfl rfl rfl rfl) ?_
          intro a ht
          refine wpl rfl rfl ht (ev_move ht rfl rfl) ?_
          intro a ht
          refine wpl_yes rfl ht rfl ((decide_eq_true h3)) ?_
          refine wpl rfl rfl ht (ev_fieldAddr ht rfl rfl fo_28_0) ?_
          intro a ht
          refine wpl_yes rfl ht rfl ((decide_eq_true h3)) ?_
          refine wpl rfl rfl ht (ev_load ht rfl rfl sc_2 (hm.blk_cell 0 rfl rfl)) ?_
          intro a ht
          refine wpl_yes rfl ht rfl ((decide_eq_true h3)) ?_
          refine wpl rfl rfl ht (ev_cmp ht rfl rfl rfl rfl) ?_
          intro a ht
          refine wpl rfl rfl ht (ev_pick_yes ht rfl rfl (decide_eq_true h3) rfl) ?_
          intro a ht
          refine wpList_nil ?_
          refine then_normal ?_
          by_cases h9 : x.p = 17
          · replace H := ite_yes h9 H
            refine wpc_yes ht rfl (decide_eq_true h9) ?_
            refine wpr ?_
            refine wpl rfl rfl ht (ev_assign ht rfl rfl) ?_
            intro a ht
            refine wpList_nil ?_
            refine then_normal ?_
            refine wp_seq ?_
            refine wp_seq ?_
            refine wpr ?_
            refine wpl rfl rfl ht (ev_move ht rfl rfl) ?_
            intro a ht
            refine wpl rfl rfl ht (ev_cmp (r := true) ht rfl rfl rfl (by decide)) ?_
            intro a ht
            refine wpList_nil ?_
            refine then_normal ?_
            refine wpc_yes ht rfl rfl ?_
            refine wp_seq ?_
            refine wpr ?_
            refine wpl rfl rfl ht (ev_move ht rfl rfl) ?_
            intro a ht
            refine wpl rfl rfl ht (ev_assign ht rfl rfl) ?_
            intro a ht
            refine wpl rfl rfl ht (ev_assign ht rfl rfl) ?_
            intro a ht
            refine wpList_nil ?_
            refine then_normal ?_
            refine wp_ret ?_
            refine then_ret ?_
            have hres := ht.res (P := Try.prog) (w := w) (rs := [.tmp 6, .tmp 7]) (vs := [.bool false, .int .i64 3]) (.tmp rfl (.tmp rfl .nil))
            obtain rfl := Option.some.inj H
            exact leave ht rfl hres ⟨rfl, ((hm.pick [] rfl (by decide)).pickφ [] rfl).post fun _ h => h⟩
          · replace H := ite_no h9 H
            refine wpc_no ht rfl (decide_eq_false h9) ?_
            refine wp_skip ?_
            refine then_normal ?_
            refine wp_seq ?_
            refine wp_seq ?_
            refine wpr ?_
            refine wpl rfl rfl ht (ev_move ht rfl rfl) ?_
            intro a ht
            refine wpl rfl rfl ht (ev_cmp ht rfl rfl rfl rfl) ?_
            intro a ht
            refine wpList_nil ?_
            refine then_normal ?_
            refine wpc_no ht rfl (decide_eq_false (by first | exact h3 | (intro hh; exact h3 hh) | omega)) ?_
            refine wp_skip ?_
            refine then_normal ?_
            refine wp_seq ?_
            refine wpr ?_
            refine wpl rfl rfl ht (ev_load_agg ht rfl rfl (ag_28.trans (by first | rw [Col.length_cells] | rfl)) (hm.blk_all 0 rfl)) ?_
            intro a ht
            refine wpl rfl rfl ht (ev_move ht rfl rfl) ?_
            intro a ht
            obtain ⟨t10, et10, H⟩ := bind_get H
            have hcall := spec_l01Put.calls k _ _ A2 c2 m2 x colours _ ((fun (hq : Ms _ _ _ ([] ++ [.blk b1 28 (Col.cells x)]) _ _) => hq.lend (φp := [IntsAt A2 c2 m2 colours]) (allRO_cons (hq.lendFact 1 rfl) (allRO_nil))) (hm.pick (own' := [] ++ [.blk b1 28 (Col.cells x)]) [0] rfl (by decide))) et10
            refine wpl_call _ rfl rfl ht rfl rfl rfl rfl can_38 hcall ?_
            clear hcall
            rintro _ w ⟨rfl, hpost⟩ a ht
            replace hm := (hm.pick (own' := [] ++ [.blk b1 28 (Col.cells x)]) [0] rfl (by decide)).backL hpost
            clear hpost
            refine wpl rfl rfl ht (ev_move ht rfl rfl) ?_
            intro a ht
            obtain ⟨t11, et11, H⟩ := bind_get H
            have hcall := spec_l05Avoids.calls k _ _ A c m t10 sizes _ ((fun (hq : Ms _ _ _ ([] ++ [.blk b1 28 (Col.cells x)]) _ _) => hq.lend (φp := [IntsAt A c m sizes]) (allRO_cons (hq.lendFact 0 rfl) (allRO_nil))) (hm.pick (own' := [] ++ [.blk b1 28 (Col.cells x)]) [0] rfl (by decide))) et11
            refine wpl_call _ rfl rfl ht rfl rfl rfl rfl can_37 hcall ?_
            clear hcall
            rintro _ w ⟨rfl, hpost⟩ a ht
            replace hm := (hm.pick (own' := [] ++ [.blk b1 28 (Col.cells x)]) [0] rfl (by decide)).backL hpost
            clear hpost
            refine wpl rfl rfl ht (ev_assign ht rfl rfl) ?_
            intro a ht
            refine wpl rfl rfl ht (ev_assign ht rfl rfl) ?_
            intro a ht
            refine wpList_nil ?_
            refine then_normal ?_
            refine wp_ret ?_
            have hres := ht.res (P := Try.prog) (w := w) (rs := [.tmp 6, .tmp 7]) (vs := [.bool t11, .int .i64 0]) (.tmp rfl (.tmp rfl .nil))
            obtain rfl := Option.some.inj H
            exact leave ht rfl hres ⟨rfl, ((hm.pick [] rfl (by decide)).pickφ [] rfl).post fun _ h => h⟩
        · replace H := ite_no h8 H
          refine wpc_yes ht rfl (not_f (Bool.eq_false_iff.mpr h8)) ?_
          refine wpr ?_
          refine wpl rfl rfl ht (ev_assign ht rfl rfl) ?_
          intro a ht
          refine wpList_nil ?_
          refine then_normal ?_
          refine wp_seq ?_
          refine wp_seq ?_
          refine wpr ?_
          refine wpl rfl rfl ht (ev_move ht rfl rfl) ?_
          intro a ht
          refine wpl rfl rfl ht (ev_cmp (r := false) ht rfl rfl rfl (by decide)) ?_
          intro a ht
          refine wpl rfl rfl ht (ev_move ht rfl rfl) ?_
          intro a ht
          refine wpl_no rfl rfl ht rfl (by decide) ?_
          intro a ht
          refine wpl_no rfl rfl ht rfl (by decide) ?_
          intro a ht
          refine wpl_no rfl rfl ht rfl (by decide) ?_
          intro a ht
          refine wpl rfl rfl ht (ev_pick_no ht rfl rfl rfl rfl) ?_
          intro a ht
          refine wpList_nil ?_
          refine then_normal ?_
          refine wpc_no ht rfl rfl ?_
          refine wp_skip ?_
          refine then_normal ?_
          refine wp_seq ?_
          refine wp_seq ?_
          refine wpr ?_
          refine wpl rfl rfl ht (ev_move ht rfl rfl) ?_
          intro a ht
          refine wpl rfl rfl ht (ev_cmp (r := true) ht rfl rfl rfl (by decide)) ?_
          intro a ht
          refine wpList_nil ?_
          refine then_normal ?_
          refine wpc_yes ht rfl rfl ?_
          refine wp_seq ?_
          refine wpr ?_
          refine wpl rfl rfl ht (ev_move ht rfl rfl) ?_
          intro a ht
          refine wpl rfl rfl ht (ev_assign ht rfl rfl) ?_
          intro a ht
          refine wpl rfl rfl ht (ev_assign ht rfl rfl) ?_
          intro a ht
          refine wpList_nil ?_
          refine then_normal ?_
          refine wp_ret ?_
          refine then_ret ?_
          have hres := ht.res (P := Try.prog) (w := w) (rs := [.tmp 6, .tmp 7]) (vs := [.bool false, .int .i64 5]) (.tmp rfl (.tmp rfl .nil))
          obtain rfl := Option.some.inj H
          exact leave ht rfl hres ⟨rfl, ((hm.pick [] rfl (by decide)).pickφ [] rfl).post fun _ h => h⟩
      · replace H := ite_no h6 H
        refine wpc_yes ht rfl (not_f (Bool.eq_false_iff.mpr h6)) ?_
        refine wpr ?_
        refine wpl rfl rfl ht (ev_assign ht rfl rfl) ?_
        intro a ht
        refine wpList_nil ?_
        refine then_normal ?_
        refine wp_seq ?_
        refine wp_seq ?_
        refine wpr ?_
        refine wpl rfl rfl ht (ev_move ht rfl rfl) ?_
        intro a ht
        refine wpl rfl rfl ht (ev_cmp (r := false) ht rfl rfl rfl (by decide)) ?_
        intro a ht
        refine wpl rfl rfl ht (ev_move ht rfl rfl) ?_
        intro a ht
        refine wpl_no rfl rfl ht rfl (by decide) ?_
        intro a ht
        refine wpl_no rfl rfl ht rfl (by decide) ?_
        intro a ht
        refine wpl_no rfl rfl ht rfl (by decide) ?_
        intro a ht
        refine wpl_no rfl rfl ht rfl (by decide) ?_
        intro a ht
        refine wpl rfl rfl ht (ev_pick_no ht rfl rfl rfl rfl) ?_
        intro a ht
        refine wpList_nil ?_
        refine then_normal ?_
        refine wpc_no ht rfl rfl ?_
        refine wp_skip ?_
        refine then_normal ?_
        refine wp_seq ?_
        refine wp_seq ?_
        refine wpr ?_
        refine wpl rfl rfl ht (ev_move ht rfl rfl) ?_
        intro a ht
        refine wpl rfl rfl ht (ev_cmp (r := false) ht rfl rfl rfl (by decide)) ?_
        intro a ht
        refine wpl rfl rfl ht (ev_move ht rfl rfl) ?_
        intro a ht
        refine wpl_no rfl rfl ht rfl (by decide) ?_
        intro a ht
        refine wpl_no rfl rfl ht rfl (by decide) ?_
        intro a ht
        refine wpl_no rfl rfl ht rfl (by decide) ?_
        intro a ht
        refine wpl rfl rfl ht (ev_pick_no ht rfl rfl rfl rfl) ?_
        intro a ht
        refine wpList_nil ?_
        refine then_normal ?_
        refine wpc_no ht rfl rfl ?_
        refine wp_skip ?_
        refine then_normal ?_
        refine wp_seq ?_
        refine wp_seq ?_
        refine wpr ?_
        refine wpl rfl rfl ht (ev_move ht rfl rfl) ?_
        intro a ht
        refine wpl rfl rfl ht (ev_cmp (r := true) ht rfl rfl rfl (by decide)) ?_
        intro a ht
        refine wpList_nil ?_
        refine then_normal ?_
        refine wpc_yes ht rfl rfl ?_
        refine wp_seq ?_
        refine wpr ?_
        refine wpl rfl rfl ht (ev_move ht rfl rfl) ?_
        intro a ht
        refine wpl rfl rfl ht (ev_assign ht rfl rfl) ?_
        intro a ht
        refine wpl rfl rfl ht (ev_assign ht rfl rfl) ?_
        intro a ht
        refine wpList_nil ?_
        refine then_normal ?_
        refine wp_ret ?_
        refine then_ret ?_
        have hres := ht.res (P := Try.prog) (w := w) (rs := [.tmp 6, .tmp 7]) (vs := [.bool false, .int .i64 2]) (.tmp rfl (.tmp rfl .nil))
        obtain rfl := Option.some.inj H
        exact leave ht rfl hres ⟨rfl, ((hm.pick [] rfl (by decide)).pickφ [] rfl).post fun _ h => h⟩
  · replace H := ite_no h3 H
    refine wpl_no rfl rfl ht rfl (by rw [(decide_eq_false h3)]; decide) ?_
    intro a ht
    refine wpl_no rfl rfl ht rfl (by rw [(decide_eq_false h3)]; decide) ?_
    intro a ht
    refine wpl_no rfl rfl ht rfl (by rw [(decide_eq_false h3)]; decide) ?_
    intro a ht
    refine wpl_no rfl rfl ht rfl (by rw [(decide_eq_false h3)]; decide) ?_
    intro a ht
    refine wpl_no rfl rfl ht rfl (by rw [(decide_eq_false h3)]; decide) ?_
    intro a ht
    refine wpl_no rfl rfl ht rfl (by rw [(decide_eq_false h3)]; decide) ?_
    intro a ht
    refine wpl_none rfl rfl ht rfl ?_
    intro a ht
    refine wpl_none rfl rfl ht rfl ?_
    intro a ht
    refine wpl_none rfl rfl ht rfl ?_
    intro a ht
    refine wpl_none rfl rfl ht rfl ?_
    intro a ht
    refine wpl_none rfl rfl ht rfl ?_
    intro a ht
    refine wpl_no rfl rfl ht rfl (by rw [(decide_eq_false h3)]; decide) ?_
    intro a ht
    refine wpl rfl rfl ht (ev_pick_no ht rfl rfl (decide_eq_false h3) rfl) ?_
    intro a ht
    refine wpList_nil ?_
    refine then_normal ?_
    refine wpc_no ht rfl rfl ?_
    refine wp_skip ?_
    refine then_normal ?_
    refine wp_seq ?_
    refine wp_seq ?_
    refine wpr ?_
    refine wpl rfl rfl ht (ev_move ht rfl rfl) ?_
    intro a ht
    refine wpl rfl rfl ht (ev_cmp ht rfl rfl rfl rfl) ?_
    intro a ht
    refine wpl rfl rfl ht (ev_move ht rfl rfl) ?_
    intro a ht
    refine wpl_no rfl rfl ht rfl (by rw [(decide_eq_false h3)]; decide) ?_
    intro a ht
    refine wpl_no rfl rfl ht rfl (by rw [(decide_eq_false h3)]; decide) ?_
    intro a ht
    refine wpl_no rfl rfl ht rfl (by rw [(decide_eq_false h3)]; decide) ?_
    intro a ht
    refine wpl_no rfl rfl ht rfl (by rw [(decide_eq_false h3)]; decide) ?_
    intro a ht
    refine wpl rfl rfl ht (ev_pick_no ht rfl rfl (decide_eq_false h3) rfl) ?_
    intro a ht
    refine wpList_nil ?_
    refine then_normal ?_
    refine wpc_no ht rfl rfl ?_
    refine wp_skip ?_
    refine then_normal ?_
    refine wp_seq ?_
    refine wp_seq ?_
    refine wpr ?_
    refine wpl rfl rfl ht (ev_move ht rfl rfl) ?_
    intro a ht
    refine wpl rfl rfl ht (ev_cmp ht rfl rfl rfl rfl) ?_
    intro a ht
    refine wpl rfl rfl ht (ev_move ht rfl rfl) ?_
    intro a ht
    refine wpl_no rfl rfl ht rfl (by rw [(decide_eq_false h3)]; decide) ?_
    intro a ht
    refine wpl_no rfl rfl ht rfl (by rw [(decide_eq_false h3)]; decide) ?_
    intro a ht
    refine wpl_no rfl rfl ht rfl (by rw [(decide_eq_false h3)]; decide) ?_
    intro a ht
    refine wpl rfl rfl ht (ev_pick_no ht rfl rfl (decide_eq_false h3) rfl) ?_
    intro a ht
    refine wpList_nil ?_
    refine then_normal ?_
    refine wpc_no ht rfl rfl ?_
    refine wp_skip ?_
    refine then_normal ?_
    refine wp_seq ?_
    refine wp_seq ?_
    refine wpr ?_
    refine wpl rfl rfl ht (ev_move ht rfl rfl) ?_
    intro a ht
    refine wpl rfl rfl ht (ev_cmp ht rfl rfl rfl rfl) ?_
    intro a ht
    refine wpList_nil ?_
    refine then_normal ?_
    refine wpc_yes ht rfl (decide_eq_true (by first | exact h3 | (intro hh; exact h3 hh) | omega)) ?_
    refine wp_seq ?_
    refine wpr ?_
    refine wpl rfl rfl ht (ev_move ht rfl rfl) ?_
    intro a ht
    refine wpl rfl rfl ht (ev_assign ht rfl rfl) ?_
    intro a ht
    refine wpl rfl rfl ht (ev_assign ht rfl rfl) ?_
    intro a ht
    refine wpList_nil ?_
    refine then_normal ?_
    refine wp_ret ?_
    refine then_ret ?_
    have hres := ht.res (P := Try.prog) (w := w) (rs := [.tmp 6, .tmp 7]) (vs := [.bool false, .int .i64 t2]) (.tmp rfl (.tmp rfl .nil))
    obtain rfl := Option.some.inj H
    exact leave ht rfl hres ⟨rfl, ((hm.pick [] rfl (by decide)).pickφ [] rfl).post fun _ h => h⟩

/-! ### impl_in: function 67 (loop.example/g01362/impl.in) -/
def impl_in.f (n_ : Int) (low : Int) (high : Int) : Option (Bool) := if n_ ≥ low then (some (decide (n_ ≤ high))) else (some false)
set_option maxRecDepth 100000 in
set_option maxHeartbeats 1000000 in
theorem impl_in.calls (X : List Nat) (w0 : World)  (n_ : Int) (low : Int) (high : Int) (r : Bool)
    (hp : Pre X w0 [] []) (H : impl_in.f n_ low high = some r) :
    Calls Try.prog 67 [.int .i64 n_, .int .i64 low, .int .i64 high].toArray w0 (Ret fun v w => v = .bool r ∧ Post X (fps []) w0 [] [] w) := by
  unfold impl_in.f at H
  refine enterM (n := 15) hp Try.func67 rfl rfl (Nat.le_of_ble_eq_true rfl) fun a w ht hm => ?_
  refine wp_seq ?_
  refine wpr ?_
  refine wpl rfl rfl ht (ev_assign ht rfl rfl) ?_
  intro a ht
  refine wpList_nil ?_
  refine then_normal ?_
  refine wp_seq ?_
  refine wpr ?_
  refine wpl rfl rfl ht (ev_move ht rfl rfl) ?_
  intro a ht
  refine wpl rfl rfl ht (ev_move ht rfl rfl) ?_
  intro a ht
  refine wpl rfl rfl ht (ev_cmp ht rfl rfl rfl rfl) ?_
  intro a ht
  refine wpl rfl rfl ht (ev_move ht rfl rfl) ?_
  intro a ht
  by_cases h1 : n_ ≥ low
  · replace H := ite_yes h1 H
    refine wpl_yes rfl ht rfl ((decide_eq_true h1)) ?_
    refine wpl rfl rfl ht (ev_move ht rfl rfl) ?_
    intro a ht
    refine wpl_yes rfl ht rfl ((decide_eq_true h1)) ?_
    refine wpl rfl rfl ht (ev_move ht rfl rfl) ?_
    intro a ht
    refine wpl_yes rfl ht rfl ((decide_eq_true h1)) ?_
    refine wpl rfl rfl ht (ev_cmp ht rfl rfl rfl rfl) ?_
    intro a ht
    refine wpl rfl rfl ht (ev_pick_yes ht rfl rfl (decide_eq_true h1) rfl) ?_
    intro a ht
    refine wpl rfl rfl ht (ev_assign ht rfl rfl) ?_
    intro a ht
    refine wpList_nil ?_
    refine then_normal ?_
    refine wp_ret ?_
    have hres := ht.res (P := Try.prog) (w := w) (rs := [.tmp 6]) (vs := [.bool (decide (n_ ≤ high))]) (.tmp rfl .nil)
    obtain rfl := Option.some.inj H
    exact leave ht rfl hres ⟨rfl, ((hm.pick [] rfl (by decide)).pickφ [] rfl).post fun _ h => h⟩
  · replace H := ite_no h1 H
    refine wpl_no rfl rfl ht rfl (by rw [(decide_eq_false h1)]; decide) ?_
    intro a ht
    refine wpl_no rfl rfl ht rfl (by rw [(decide_eq_false h1)]; decide) ?_
    intro a ht
    refine wpl_no rfl rfl ht rfl (by rw [(decide_eq_false h1)]; decide) ?_
    intro a ht
    refine wpl rfl rfl ht (ev_pick_no ht rfl rfl (decide_eq_false h1) rfl) ?_
    intro a ht
    refine wpl rfl rfl ht (ev_assign ht rfl rfl) ?_
    intro a ht
    refine wpList_nil ?_
    refine then_normal ?_
    refine wp_ret ?_
    have hres := ht.res (P := Try.prog) (w := w) (rs := [.tmp 6]) (vs := [.bool false]) (.tmp rfl .nil)
    obtain rfl := Option.some.inj H
    exact leave ht rfl hres ⟨rfl, ((hm.pick [] rfl (by decide)).pickφ [] rfl).post fun _ h => h⟩

/-! ### impl_Colouring_edges: function 83 ((*loop.example/g01362/impl.Colouring).edges) -/
def impl_Colouring_edges.f (x : Col) : Option (Int) := some (w64 (Int.tdiv (w64 (x.p * (w64 (x.p - 1)))) 2))
set_option maxRecDepth 100000 in
set_option maxHeartbeats 1000000 in
theorem impl_Colouring_edges.calls (X : List Nat) (w0 : World) (b : Nat) (x : Col) (r : Int)
    (hp : Pre X w0 [.blk b 28 (Col.cells x)] []) (H : impl_Colouring_edges.f x = some r) :
    Calls Try.prog 83 [.pointer (some ⟨b, 0, none⟩)].toArray w0 (Ret fun v w => v = .int .i64 r ∧ Post X (fps [.blk b 28 (Col.cells x)]) w0 [.blk b 28 (Col.cells x)] [] w) := by
  unfold impl_Colouring_edges.f at H
  refine enterM (n := 14) hp Try.func83 rfl rfl (Nat.le_of_ble_eq_true rfl) fun a w ht hm => ?_
  refine wp_seq ?_
  refine wpr ?_
  refine wpl rfl rfl ht (ev_assign ht rfl rfl) ?_
  intro a ht
  refine wpList_nil ?_
  refine then_normal ?_
  refine wp_seq ?_
  refine wph_begin (fun w => Ms X (fps [.blk b 28 (Col.cells x)]) w0 [.blk b 28 (Col.cells x)] [] w) mixed ?_
  replace hm := hm.drew
  have hS : Ms X (fps [.blk b 28 (Col.cells x)]) w0 [.blk b 28 (Col.cells x)] [] w.drew := (hm.pick [0] rfl (by decide)).pickφ [] rfl
  generalize w.drew = w at hm hS ⊢
  refine wph_take (i := 0) rfl (by kernel_rfl) (by kernel_rfl) (by kernel_rfl) (fun _ _ _ h => h) rfl ht hS (wanted_plain rfl) (fun w hm => ev_move ht rfl rfl) ?_
  intro a ht
  refine wph_take (i := 1) rfl (by kernel_rfl) (by kernel_rfl) (by kernel_rfl) (fun _ _ _ h => h) rfl ht hS (wanted_plain rfl) (fun w hm => ev_nilCheck ht rfl rfl) ?_
  intro a ht
  refine wph_take (i := 2) rfl (by kernel_rfl) (by kernel_rfl) (by kernel_rfl) (fun _ _ _ h => h) rfl ht hS (wanted_plain rfl) (fun w hm => ev_fieldAddr ht rfl rfl fo_28_0) ?_
  intro a ht
  refine wph_take (i := 3) rfl (by kernel_rfl) (by kernel_rfl) (by kernel_rfl) (fun _ _ _ h => h) rfl ht hS (wanted_plain rfl) (fun w hm => ev_load ht rfl rfl sc_2 (hm.blk_cell 0 rfl rfl)) ?_
  intro a ht
  refine wph_take (i := 4) rfl (by kernel_rfl) (by kernel_rfl) (by kernel_rfl) (fun _ _ _ h => h) rfl ht hS (wanted_plain rfl) (fun w hm => ev_move ht rfl rfl) ?_
  intro a ht
  refine wph_take (i := 5) rfl (by kernel_rfl) (by kernel_rfl) (by kernel_rfl) (fun _ _ _ h => h) rfl ht hS (wanted_plain rfl) (fun w hm => ev_nilCheck ht rfl rfl) ?_
  intro a ht
  refine wph_take (i := 6) rfl (by kernel_rfl) (by kernel_rfl) (by kernel_rfl) (fun _ _ _ h => h) rfl ht hS (wanted_plain rfl) (fun w hm => ev_fieldAddr ht rfl rfl fo_28_0) ?_
  intro a ht
  refine wph_take (i := 7) rfl (by kernel_rfl) (by kernel_rfl) (by kernel_rfl) (fun _ _ _ h => h) rfl ht hS (wanted_plain rfl) (fun w hm => ev_load ht rfl rfl sc_2 (hm.blk_cell 0 rfl rfl)) ?_
  intro a ht
  refine wph_take (i := 8) rfl (by kernel_rfl) (by kernel_rfl) (by kernel_rfl) (fun _ _ _ h => h) rfl ht hS (wanted_plain rfl) (fun w hm => ev_arith ht rfl rfl rfl rfl) ?_
  intro a ht
  refine wph_take (i := 9) rfl (by kernel_rfl) (by kernel_rfl) (by kernel_rfl) (fun _ _ _ h => h) rfl ht hS (wanted_plain rfl) (fun w hm => ev_arith ht rfl rfl rfl rfl) ?_
  intro a ht
  refine wph_take (i := 10) rfl (by kernel_rfl) (by kernel_rfl) (by kernel_rfl) (fun _ _ _ h => h) rfl ht hS (wanted_plain rfl) (fun w hm => ev_quo ht rfl rfl rfl (by decide)) ?_
  intro a ht
  refine wph_take (i := 11) rfl (by kernel_rfl) (by kernel_rfl) (by kernel_rfl) (fun _ _ _ h => h) rfl ht hS (wanted_plain rfl) (fun w hm => ev_assign ht rfl rfl) ?_
  intro a ht
  refine wph_done (by kernel_rfl) ?_
  refine then_normal ?_
  refine wp_ret ?_
  have hres := ht.res (P := Try.prog) (w := w) (rs := [.tmp 2]) (vs := [.int .i64 (w64 (Int.tdiv (w64 (x.p * (w64 (x.p - 1)))) 2))]) (.tmp rfl .nil)
  obtain rfl := Option.some.inj H
  exact leave ht rfl hres ⟨rfl, ((hm.pick [0] rfl (by decide)).pickφ [] rfl).post fun _ h => h⟩

end Go.Proofs.Ytocjhmeekecdiaa.G
