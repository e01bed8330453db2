/- What each Go function computes, as a Lean function, and the proof that it does: written by a program of this session (wip/gen), part 8. -/
import Derived.Test.YtfbdcidedjocdaaGFnExactPlayOut7
namespace Go.Proofs.Ytfbdcidedjocdaa.G
open Go Go.RowKit Go.Proofs.Ytfbdcidedjocdaa.K
set_option linter.unusedVariables false
set_option linter.unusedSimpArgs false

/-! ### impl_position_moved: function 50 ((loop.example/g01362/impl.position).moved) -/
def impl_position_moved.f (k : Nat) (p : Int) (p2 : List Int) (e : Int) : Option (Int × List Int) := (slices_Clone_int64_int64.f p2).bind fun t3 => (impl_position_mover.f k p p2).bind fun t8 => (getI t3 e).bind fun t9 => some (p, t3.set e.toNat t8)
set_option maxRecDepth 100000 in
set_option maxHeartbeats 1000000 in
theorem impl_position_moved.calls (k : Nat) (X : List Nat) (w0 : World) (A : Option Addr) (c : Nat) (m : Nat) (p : Int) (p2 : List Int) (e : Int) (r : Int × List Int)
    (hp : Pre X w0 [] [IntsAt A c m p2]) (H : impl_position_moved.f k p p2 e = some r) :
    Calls Try.prog 50 [.agg [.int .i64 p, .slice A m c].toArray, .int .i64 e].toArray w0 (Ret fun v w => ∃ (A_1 : Option Addr) (c_1 : Nat) (n_1 : Nat), v = .agg [.int .i64 r.1, .slice A_1 n_1 c_1].toArray ∧ Post X (fps []) w0 [.vec A_1 c_1 2 1 n_1 (ints r.2)] [] w) := by
  unfold impl_position_moved.f at H
  refine enterM (n := 19) hp Try.func50 rfl rfl (Nat.le_of_ble_eq_true rfl) fun a w ht hm => ?_
  refine wp_seq ?_
  refine wpr ?_
  refine wpl_box rfl rfl ht hm rfl rfl rfl ?_
  intro b1 a ht w hm
  refine wpl_alloc rfl rfl ht hm rfl zo_35 ?_
  intro b2 a ht w hm
  refine wpList_nil ?_
  refine then_normal ?_
  refine wp_seq ?_
  refine wph_begin (fun w => Ms X (fps []) w0 [.blk b2 35 [.int .i64 0, .slice none 0 0], .blk b1 35 [.int .i64 p, .slice A m c]] [IntsAt A c m p2] w) mixed ?_
  replace hm := hm.drew
  have hS : Ms X (fps []) w0 [.blk b2 35 [.int .i64 0, .slice none 0 0], .blk b1 35 [.int .i64 p, .slice A m c]] [IntsAt A c m p2] w.drew := (hm.pick [0, 1] rfl (by decide)).pickφ [0] rfl
  generalize w.drew = w at hm hS ⊢
  refine wph_take (i := 0) rfl (by kernel_rfl) (by kernel_rfl) (by kernel_rfl) (fun _ _ _ h => h) rfl ht hS (wanted_plain rfl) (fun w hm => ev_fieldAddr ht rfl rfl fo_35_0) ?_
  intro a ht
  refine wph_take (i := 1) rfl (by kernel_rfl) (by kernel_rfl) (by kernel_rfl) (fun _ _ _ h => h) rfl ht hS (wanted_plain rfl) (fun w hm => ev_load ht rfl rfl sc_2 (hm.blk_cell 1 rfl rfl)) ?_
  intro a ht
  refine wph_take (i := 2) rfl (by kernel_rfl) (by kernel_rfl) (by kernel_rfl) (fun _ _ _ h => h) rfl ht hS (wanted_plain rfl) (fun w hm => ev_fieldAddr ht rfl rfl fo_35_1) ?_
  intro a ht
  refine wph_take (i := 3) rfl (by kernel_rfl) (by kernel_rfl) (by kernel_rfl) (fun _ _ _ h => h) rfl ht hS (wanted_plain rfl) (fun w hm => ev_load ht rfl rfl sc_22 (hm.blk_cell 1 rfl rfl)) ?_
  intro a ht
  refine wph_two (i := 4) (j := 6) (by kernel_rfl) ?_ ?_ 
  · refine wph_step rfl ?_
    obtain ⟨t3, et3, H⟩ := bind_get H
    have hcall := slices_Clone_int64_int64.calls _ _ A c m p2 _ ((fun (hq : Ms _ _ _ ([] ++ [.blk b2 35 [.int .i64 0, .slice none 0 0], .blk b1 35 [.int .i64 p, .slice A m c]]) _ _) => hq.lend (φp := [IntsAt A c m p2]) (allRO_cons (hq.lendFact 0 rfl) (allRO_nil))) (hm.pick (own' := [] ++ [.blk b2 35 [.int .i64 0, .slice none 0 0], .blk b1 35 [.int .i64 p, .slice A m c]]) [0, 1] rfl (by decide))) et3
    refine wpl_call _ rfl rfl ht rfl rfl rfl rfl can_67 hcall ?_
    clear hcall
    rintro _ w ⟨A4, c5, m6, rfl, hpost⟩ a ht
    replace hm := (hm.pick (own' := [] ++ [.blk b2 35 [.int .i64 0, .slice none 0 0], .blk b1 35 [.int .i64 p, .slice A m c]]) [0, 1] rfl (by decide)).backL hpost
    clear hpost
    have hS : Ms X (fps []) w0 [.blk b2 35 [.int .i64 0, .slice none 0 0], .blk b1 35 [.int .i64 p, .slice A m c]] [IntsAt A c m p2] w := (hm.pick [1, 2] rfl (by decide)).pickφ [0] rfl
    refine wpList_nil (qn ⟨hS, ?_⟩)
    refine wph_take (i := 5) rfl (by kernel_rfl) (by kernel_rfl) (by kernel_rfl) (fun _ _ _ h => h) rfl ht hS (wanted_plain rfl) (fun w hm => ev_build (vs := [.int .i64 p, .slice A4 m6 c5]) ht rfl bi_35 rfl rfl) ?_
    intro a ht
    refine wph_one (i := 6) (by kernel_rfl) (wph_step rfl ?_)
    refine wpl_alloc rfl rfl ht hm rfl zo_35 ?_
    intro b7 a ht w hm
    have hS : Ms X (fps []) w0 [.blk b2 35 [.int .i64 0, .slice none 0 0], .blk b1 35 [.int .i64 p, .slice A m c]] [IntsAt A c m p2] w := (hm.pick [2, 3] rfl (by decide)).pickφ [0] rfl
    refine wpList_nil (qn ⟨hS, ?_⟩)
    refine wph_one (i := 7) (by kernel_rfl) (wph_step rfl ?_)
    refine wpl_store_whole 0 rfl rfl ht hm rfl rfl rfl szn_35 rfl rfl (by simp [Value.oneCell']) ?_
    intro a ht w hm
    have hS : Ms X (fps []) w0 [.blk b2 35 [.int .i64 0, .slice none 0 0], .blk b1 35 [.int .i64 p, .slice A m c]] [IntsAt A c m p2] w := (hm.pick [2, 3] rfl (by decide)).pickφ [0] rfl
    refine wpList_nil (qn ⟨hS, ?_⟩)
    refine wph_done (by kernel_rfl) ?_
    refine then_normal ?_
    refine wp_seq ?_
    refine wph_begin (fun w => Ms X (fps []) w0 [.blk b7 35 [.int .i64 p, .slice A4 m6 c5], .blk b2 35 [.int .i64 0, .slice none 0 0], .blk b1 35 [.int .i64 p, .slice A m c]] [IntsAt A c m p2] w) mixed ?_
    replace hm := hm.drew
    have hS : Ms X (fps []) w0 [.blk b7 35 [.int .i64 p, .slice A4 m6 c5], .blk b2 35 [.int .i64 0, .slice none 0 0], .blk b1 35 [.int .i64 p, .slice A m c]] [IntsAt A c m p2] w.drew := (hm.pick [0, 2, 3] rfl (by decide)).pickφ [0] rfl
    generalize w.drew = w at hm hS ⊢
    refine wph_take (i := 0) rfl (by kernel_rfl) (by kernel_rfl) (by kernel_rfl) (fun _ _ _ h => h) rfl ht hS (wanted_plain rfl) (fun w hm => ev_fieldAddr ht rfl rfl fo_35_1) ?_
    intro a ht
    refine wph_take (i := 1) rfl (by kernel_rfl) (by kernel_rfl) (by kernel_rfl) (fun _ _ _ h => h) rfl ht hS (wanted_plain rfl) (fun w hm => ev_load ht rfl rfl sc_22 (hm.blk_cell 0 rfl rfl)) ?_
    intro a ht
    refine wph_take (i := 2) rfl (by kernel_rfl) (by kernel_rfl) (by kernel_rfl) (fun _ _ _ h => h) rfl ht hS (wanted_plain rfl) (fun w hm => ev_move ht rfl rfl) ?_
    intro a ht
    refine wph_take (i := 3) rfl (by kernel_rfl) (by kernel_rfl) (by kernel_rfl) (fun _ _ _ h => h) rfl ht hS (wanted_plain rfl) (fun w hm => ev_load_agg (xs := [.int .i64 p, .slice A m c]) ht rfl rfl ag_35 (hm.blk_all 2 rfl)) ?_
    intro a ht
    refine wph_one (i := 4) (by kernel_rfl) (wph_step rfl ?_)
    obtain ⟨t8, et8, H⟩ := bind_get H
    have hcall := impl_position_mover.calls k _ _ A c m p p2 _ ((fun (hq : Ms _ _ _ ([] ++ [.blk b7 35 [.int .i64 p, .slice A4 m6 c5], .vec A4 c5 2 1 m6 (ints t3), .blk b2 35 [.int .i64 0, .slice none 0 0], .blk b1 35 [.int .i64 p, .slice A m c]]) _ _) => hq.lend (φp := [IntsAt A c m p2]) (allRO_cons (hq.lendFact 0 rfl) (allRO_nil))) (hm.pick (own' := [] ++ [.blk b7 35 [.int .i64 p, .slice A4 m6 c5], .vec A4 c5 2 1 m6 (ints t3), .blk b2 35 [.int .i64 0, .slice none 0 0], .blk b1 35 [.int .i64 p, .slice A m c]]) [0, 1, 2, 3] rfl (by decide))) et8
    refine wpl_call _ rfl rfl ht rfl rfl rfl rfl can_52 hcall ?_
    clear hcall
    rintro _ w ⟨rfl, hpost⟩ a ht
    replace hm := (hm.pick (own' := [] ++ [.blk b7 35 [.int .i64 p, .slice A4 m6 c5], .vec A4 c5 2 1 m6 (ints t3), .blk b2 35 [.int .i64 0, .slice none 0 0], .blk b1 35 [.int .i64 p, .slice A m c]]) [0, 1, 2, 3] rfl (by decide)).backL hpost
    clear hpost
    have hS : Ms X (fps []) w0 [.blk b7 35 [.int .i64 p, .slice A4 m6 c5], .blk b2 35 [.int .i64 0, .slice none 0 0], .blk b1 35 [.int .i64 p, .slice A m c]] [IntsAt A c m p2] w := (hm.pick [0, 2, 3] rfl (by decide)).pickφ [0] rfl
    refine wpList_nil (qn ⟨hS, ?_⟩)
    refine wph_one (i := 5) (by kernel_rfl) (wph_step rfl ?_)
    obtain ⟨t9, et9, H⟩ := bind_get H
    refine wpl rfl rfl ht (ev_index_ints ht rfl rfl rfl so_22 (hm.vec_row 1 rfl) et9) ?_
    intro a ht
    have hS : Ms X (fps []) w0 [.blk b7 35 [.int .i64 p, .slice A4 m6 c5], .blk b2 35 [.int .i64 0, .slice none 0 0], .blk b1 35 [.int .i64 p, .slice A m c]] [IntsAt A c m p2] w := (hm.pick [0, 2, 3] rfl (by decide)).pickφ [0] rfl
    refine wpList_nil (qn ⟨hS, ?_⟩)
    refine wph_one (i := 6) (by kernel_rfl) (wph_step rfl ?_)
    refine wpl_store_int 1 rfl rfl ht hm rfl rfl rfl sz1_2 rfl et9 ?_
    intro a ht w hm
    have hS : Ms X (fps []) w0 [.blk b7 35 [.int .i64 p, .slice A4 m6 c5], .blk b2 35 [.int .i64 0, .slice none 0 0], .blk b1 35 [.int .i64 p, .slice A m c]] [IntsAt A c m p2] w := (hm.pick [0, 2, 3] rfl (by decide)).pickφ [0] rfl
    refine wpList_nil (qn ⟨hS, ?_⟩)
    refine wph_done (by kernel_rfl) ?_
    refine then_normal ?_
    refine wp_seq ?_
    refine wpr ?_
    refine wpl rfl rfl ht (ev_load_agg (xs := [.int .i64 p, .slice A4 m6 c5]) ht rfl rfl ag_35 (hm.blk_all 0 rfl)) ?_
    intro a ht
    refine wpl_store_whole 2 rfl rfl ht hm rfl rfl rfl szn_35 rfl rfl (by simp [Value.oneCell']) ?_
    intro a ht w hm
    refine wpList_nil ?_
    refine then_normal ?_
    refine wp_ret ?_
    have hres := ht.res (P := Try.prog) (w := w) (rs := [.cell 4 35]) (vs := [.agg [.int .i64 p, .slice A4 m6 c5].toArray]) (.agg rfl ag_35 (hm.blk_all 2 rfl) .nil)
    obtain rfl := Option.some.inj H
    exact leave ht rfl hres ⟨A4, c5, m6, rfl, ((hm.pick [1] rfl (by decide)).pickφ [] rfl).post fun _ h => h⟩
  · refine wph_step rfl ?_
    refine wpl_alloc rfl rfl ht hm rfl zo_35 ?_
    intro b3 a ht w hm
    have hS : Ms X (fps []) w0 [.blk b2 35 [.int .i64 0, .slice none 0 0], .blk b1 35 [.int .i64 p, .slice A m c]] [IntsAt A c m p2] w := (hm.pick [1, 2] rfl (by decide)).pickφ [0] rfl
    refine wpList_nil (qn ⟨hS, ?_⟩)
    refine wph_one (i := 4) (by kernel_rfl) (wph_step rfl ?_)
    obtain ⟨t4, et4, H⟩ := bind_get H
    have hcall := slices_Clone_int64_int64.calls _ _ A c m p2 _ ((fun (hq : Ms _ _ _ ([] ++ [.blk b3 35 [.int .i64 0, .slice none 0 0], .blk b2 35 [.int .i64 0, .slice none 0 0], .blk b1 35 [.int .i64 p, .slice A m c]]) _ _) => hq.lend (φp := [IntsAt A c m p2]) (allRO_cons (hq.lendFact 0 rfl) (allRO_nil))) (hm.pick (own' := [] ++ [.blk b3 35 [.int .i64 0, .slice none 0 0], .blk b2 35 [.int .i64 0, .slice none 0 0], .blk b1 35 [.int .i64 p, .slice A m c]]) [0, 1, 2] rfl (by decide))) et4
    refine wpl_call _ rfl rfl ht rfl rfl rfl rfl can_67 hcall ?_
    clear hcall
    rintro _ w ⟨A5, c6, m7, rfl, hpost⟩ a ht
    replace hm := (hm.pick (own' := [] ++ [.blk b3 35 [.int .i64 0, .slice none 0 0], .blk b2 35 [.int .i64 0, .slice none 0 0], .blk b1 35 [.int .i64 p, .slice A m c]]) [0, 1, 2] rfl (by decide)).backL hpost
    clear hpost
    have hS : Ms X (fps []) w0 [.blk b2 35 [.int .i64 0, .slice none 0 0], .blk b1 35 [.int .i64 p, .slice A m c]] [IntsAt A c m p2] w := (hm.pick [2, 3] rfl (by decide)).pickφ [0] rfl
    refine wpList_nil (qn ⟨hS, ?_⟩)
    refine wph_take (i := 5) rfl (by kernel_rfl) (by kernel_rfl) (by kernel_rfl) (fun _ _ _ h => h) rfl ht hS (wanted_plain rfl) (fun w hm => ev_build (vs := [.int .i64 p, .slice A5 m7 c6]) ht rfl bi_35 rfl rfl) ?_
    intro a ht
    refine wph_one (i := 7) (by kernel_rfl) (wph_step rfl ?_)
    refine wpl_store_whole 1 rfl rfl ht hm rfl rfl rfl szn_35 rfl rfl (by simp [Value.oneCell']) ?_
    intro a ht w hm
    have hS : Ms X (fps []) w0 [.blk b2 35 [.int .i64 0, .slice none 0 0], .blk b1 35 [.int .i64 p, .slice A m c]] [IntsAt A c m p2] w := (hm.pick [2, 3] rfl (by decide)).pickφ [0] rfl
    refine wpList_nil (qn ⟨hS, ?_⟩)
    refine wph_done (by kernel_rfl) ?_
    refine then_normal ?_
    refine wp_seq ?_
    refine wph_begin (fun w => Ms X (fps []) w0 [.blk b3 35 [.int .i64 p, .slice A5 m7 c6], .blk b2 35 [.int .i64 0, .slice none 0 0], .blk b1 35 [.int .i64 p, .slice A m c]] [IntsAt A c m p2] w) mixed ?_
    replace hm := hm.drew
    have hS : Ms X (fps []) w0 [.blk b3 35 [.int .i64 p, .slice A5 m7 c6], .blk b2 35 [.int .i64 0, .slice none 0 0], .blk b1 35 [.int .i64 p, .slice A m c]] [IntsAt A c m p2] w.drew := (hm.pick [1, 2, 3] rfl (by decide)).pickφ [0] rfl
    generalize w.drew = w at hm hS ⊢
    refine wph_take (i := 0) rfl (by kernel_rfl) (by kernel_rfl) (by kernel_rfl) (fun _ _ _ h => h) rfl ht hS (wanted_plain rfl) (fun w hm => ev_fieldAddr ht rfl rfl fo_35_1) ?_
    intro a ht
    refine wph_take (i := 1) rfl (by kernel_rfl) (by kernel_rfl) (by kernel_rfl) (fun _ _ _ h => h) rfl ht hS (wanted_plain rfl) (fun w hm => ev_load ht rfl rfl sc_22 (hm.blk_cell 0 rfl rfl)) ?_
    intro a ht
    refine wph_take (i := 2) rfl (by kernel_rfl) (by kernel_rfl) (by kernel_rfl) (fun _ _ _ h => h) rfl ht hS (wanted_plain rfl) (fun w hm => ev_move ht rfl rfl) ?_
    intro a ht
    refine wph_take (i := 3) rfl (by kernel_rfl) (by kernel_rfl) (by kernel_rfl) (fun _ _ _ h => h) rfl ht hS (wanted_plain rfl) (fun w hm => ev_load_agg (xs := [.int .i64 p, .slice A m c]) ht rfl rfl ag_35 (hm.blk_all 2 rfl)) ?_
    intro a ht
    refine wph_one (i := 4) (by kernel_rfl) (wph_step rfl ?_)
    obtain ⟨t8, et8, H⟩ := bind_get H
    have hcall := impl_position_mover.calls k _ _ A c m p p2 _ ((fun (hq : Ms _ _ _ ([] ++ [.vec A5 c6 2 1 m7 (ints t4), .blk b3 35 [.int .i64 p, .slice A5 m7 c6], .blk b2 35 [.int .i64 0, .slice none 0 0], .blk b1 35 [.int .i64 p, .slice A m c]]) _ _) => hq.lend (φp := [IntsAt A c m p2]) (allRO_cons (hq.lendFact 0 rfl) (allRO_nil))) (hm.pick (own' := [] ++ [.vec A5 c6 2 1 m7 (ints t4), .blk b3 35 [.int .i64 p, .slice A5 m7 c6], .blk b2 35 [.int .i64 0, .slice none 0 0], .blk b1 35 [.int .i64 p, .slice A m c]]) [0, 1, 2, 3] rfl (by decide))) et8
    refine wpl_call _ rfl rfl ht rfl rfl rfl rfl can_52 hcall ?_
    clear hcall
    rintro _ w ⟨rfl, hpost⟩ a ht
    replace hm := (hm.pick (own' := [] ++ [.vec A5 c6 2 1 m7 (ints t4), .blk b3 35 [.int .i64 p, .slice A5 m7 c6], .blk b2 35 [.int .i64 0, .slice none 0 0], .blk b1 35 [.int .i64 p, .slice A m c]]) [0, 1, 2, 3] rfl (by decide)).backL hpost
    clear hpost
    have hS : Ms X (fps []) w0 [.blk b3 35 [.int .i64 p, .slice A5 m7 c6], .blk b2 35 [.int .i64 0, .slice none 0 0], .blk b1 35 [.int .i64 p, .slice A m c]] [IntsAt A c m p2] w := (hm.pick [1, 2, 3] rfl (by decide)).pickφ [0] rfl
    refine wpList_nil (qn ⟨hS, ?_⟩)
    refine wph_one (i := 5) (by kernel_rfl) (wph_step rfl ?_)
    obtain ⟨t9, et9, H⟩ := bind_get H
    refine wpl rfl rfl ht (ev_index_ints ht rfl rfl rfl so_22 (hm.vec_row 0 rfl) et9) ?_
    intro a ht
    have hS : Ms X (fps []) w0 [.blk b3 35 [.int .i64 p, .slice A5 m7 c6], .blk b2 35 [.int .i64 0, .slice none 0 0], .blk b1 35 [.int .i64 p, .slice A m c]] [IntsAt A c m p2] w := (hm.pick [1, 2, 3] rfl (by decide)).pickφ [0] rfl
    refine wpList_nil (qn ⟨hS, ?_⟩)
    refine wph_one (i := 6) (by kernel_rfl) (wph_step rfl ?_)
    refine wpl_store_int 0 rfl rfl ht hm rfl rfl rfl sz1_2 rfl et9 ?_
    intro a ht w hm
    have hS : Ms X (fps []) w0 [.blk b3 35 [.int .i64 p, .slice A5 m7 c6], .blk b2 35 [.int .i64 0, .slice none 0 0], .blk b1 35 [.int .i64 p, .slice A m c]] [IntsAt A c m p2] w := (hm.pick [1, 2, 3] rfl (by decide)).pickφ [0] rfl
    refine wpList_nil (qn ⟨hS, ?_⟩)
    refine wph_done (by kernel_rfl) ?_
    refine then_normal ?_
    refine wp_seq ?_
    refine wpr ?_
    refine wpl rfl rfl ht (ev_load_agg (xs := [.int .i64 p, .slice A5 m7 c6]) ht rfl rfl ag_35 (hm.blk_all 1 rfl)) ?_
    intro a ht
    refine wpl_store_whole 2 rfl rfl ht hm rfl rfl rfl szn_35 rfl rfl (by simp [Value.oneCell']) ?_
    intro a ht w hm
    refine wpList_nil ?_
    refine then_normal ?_
    refine wp_ret ?_
    have hres := ht.res (P := Try.prog) (w := w) (rs := [.cell 4 35]) (vs := [.agg [.int .i64 p, .slice A5 m7 c6].toArray]) (.agg rfl ag_35 (hm.blk_all 2 rfl) .nil)
    obtain rfl := Option.some.inj H
    exact leave ht rfl hres ⟨A5, c6, m7, rfl, ((hm.pick [0] rfl (by decide)).pickφ [] rfl).post fun _ h => h⟩

/-! ### impl_player_outcome: function 64 ((loop.example/g01362/impl.player).outcome) -/
mutual
def impl_player_outcome.l0 : Nat → Int → List Int → ByteArray → List (ByteArray × Int) → Int → Int → Option (Int × List (ByteArray × Int))
  | 0, _, _, _, _, _, _ => none
  | q7 + 1, p, p2, t4, ms0_1, xs0_2, xs0_3 => if xs0_3 < (p2.length : Int) then ((getI p2 xs0_3).bind fun t9 => if t9 ≥ 0 then (impl_player_outcome.l0 q7 p p2 t4 ms0_1 xs0_2 (w64 (xs0_3 + 1))) else ((impl_position_moved.f q7 p p2 xs0_3).bind fun t11 => (impl_player_outcome.f q7 ms0_1 t11.1 t11.2).bind fun t15 => (impl_position_mover.f q7 p p2).bind fun t16 => if t15.1 = t16 then (some (t15.1, kvPut t15.2 t4 t15.1)) else (if t15.1 = 2 then (impl_player_outcome.l0 q7 p p2 t4 t15.2 2 (w64 (xs0_3 + 1))) else (impl_player_outcome.l0 q7 p p2 t4 t15.2 xs0_2 (w64 (xs0_3 + 1)))))) else (some (xs0_2, kvPut ms0_1 t4 xs0_2))
def impl_player_outcome.f : Nat → List (ByteArray × Int) → Int → List Int → Option (Int × List (ByteArray × Int))
  | 0, _, _, _ => none
  | k + 1, k_, p, p2 => (impl_position_result.f k p p2).bind fun t2 => if t2 ≥ 0 then (some (t2, k_)) else ((impl_position_key.f k p p2).bind fun t4 => if ((kvGet k_ t4).isSome) = true then (some ((kvGet k_ t4).getD 0, k_)) else ((impl_position_mover.f k p p2).bind fun t6 => impl_player_outcome.l0 k p p2 t4 k_ (w64 (1 - t6)) 0))
end
set_option maxRecDepth 100000 in
set_option maxHeartbeats 1000000 in
theorem impl_player_outcome.calls (k : Nat) (X : List Nat) (w0 : World) (b : Nat) (A : Option Addr) (c : Nat) (m : Nat) (k_ : List (ByteArray × Int)) (p : Int) (p2 : List Int) (r : Int × List (ByteArray × Int))
    (hp : Pre X w0 [.kv b (kvS k_)] [IntsAt A c m p2]) (H : impl_player_outcome.f k k_ p p2 = some r) :
    Calls Try.prog 64 [.map (some b), .agg [.int .i64 p, .slice A m c].toArray].toArray w0 (Ret fun v w => v = .int .i64 r.1 ∧ Post X (fps [.kv b (kvS k_)]) w0 [.kv b (kvS r.2)] [] w) := by
  induction k using Nat.strongRecOn generalizing X w0 b A c m k_ p p2 r with
  | _ k ih =>
  cases k with
  | zero => cases H
  | succ k =>
  rw [impl_player_outcome.f] at H
  refine enterM (n := 58) hp Try.func64 rfl rfl (Nat.le_of_ble_eq_true rfl) fun a w ht hm => ?_
  induction k using Nat.strongRecOn with
  | _ k ih =>
  refine wp_seq ?_
  refine wpr ?_
  refine wpl_box rfl rfl ht hm rfl rfl rfl ?_
  intro b1 a ht w hm
  refine wpl rfl rfl ht (ev_assign ht rfl rfl) ?_
  intro a ht
  refine wpList_nil ?_
  refine then_normal ?_
  refine wp_seq ?_
  refine wp_seq ?_
  refine wpr ?_
  refine wpl rfl rfl ht (ev_load_agg (xs := [.int .i64 p, .slice A m c]) ht rfl rfl ag_35 (hm.blk_all 0 rfl)) ?_
  intro a ht
  obtain ⟨t2, et2, H⟩ := bind_get H
  have hcall := impl_position_result.calls k _ _ A c m p p2 _ ((fun (hq : Ms _ _ _ ([] ++ [.blk b1 35 [.int .i64 p, .slice A m c], .kv b (kvS k_)]) _ _) => hq.lend (φp := [IntsAt A c m p2]) (allRO_cons (hq.lendFact 0 rfl) (allRO_nil))) (hm.pick (own' := [] ++ [.blk b1 35 [.int .i64 p, .slice A m c], .kv b (kvS k_)]) [0, 1] rfl (by decide))) et2
  refine wpl_call _ rfl rfl ht rfl rfl rfl rfl can_48 hcall ?_
  clear hcall
  rintro _ w ⟨rfl, hpost⟩ a ht
  replace hm := (hm.pick (own' := [] ++ [.blk b1 35 [.int .i64 p, .slice A m c], .kv b (kvS k_)]) [0, 1] rfl (by decide)).backL hpost
  clear hpost
  refine wpl rfl rfl ht (ev_assign ht rfl rfl) ?_
  intro a ht
  refine wpList_nil ?_
  refine then_normal ?_
  refine wp_seq ?_
  refine wpr ?_
  refine wpl rfl rfl ht (ev_move ht rfl rfl) ?_
  intro a ht
  refine wpl rfl rfl ht (ev_cmp ht rfl rfl rfl rfl) ?_
  intro a ht
  refine wpList_nil ?_
  refine then_normal ?_
  by_cases h3 : t2 ≥ 0
  · replace H := ite_yes h3 H
    refine wpc_yes ht rfl (decide_eq_true h3) ?_
    refine wp_seq ?_
    refine wpr ?_
    refine wpl rfl rfl ht (ev_move ht rfl rfl) ?_
    intro a ht
    refine wpl rfl rfl ht (ev_assign ht rfl rfl) ?_
    intro a ht
    refine wpList_nil ?_
    refine then_normal ?_
    refine wp_ret ?_
    refine then_ret ?_
    have hres := ht.res (P := Try.prog) (w := w) (rs := [.tmp 4]) (vs := [.int .i64 t2]) (.tmp rfl .nil)
    obtain rfl := Option.some.inj H
    exact leave ht rfl hres ⟨rfl, ((hm.pick [1] rfl (by decide)).pickφ [] rfl).post fun _ h => h⟩
  · replace H := ite_no h3 H
    refine wpc_no ht rfl (decide_eq_false h3) ?_
    refine wp_skip ?_
    refine then_normal ?_
    refine wp_seq ?_
    refine wpr ?_
    refine wpl rfl rfl ht (ev_load_agg (xs := [.int .i64 p, .slice A m c]) ht rfl rfl ag_35 (hm.blk_all 0 rfl)) ?_
    intro a ht
    obtain ⟨t4, et4, H⟩ := bind_get H
    have hcall := impl_position_key.calls k _ _ A c m p p2 _ ((fun (hq : Ms _ _ _ ([] ++ [.blk b1 35 [.int .i64 p, .slice A m c], .kv b (kvS k_)]) _ _) => hq.lend (φp := [IntsAt A c m p2]) (allRO_cons (hq.lendFact 0 rfl) (allRO_nil))) (hm.pick (own' := [] ++ [.blk b1 35 [.int .i64 p, .slice A m c], .kv b (kvS k_)]) [0, 1] rfl (by decide))) et4
    refine wpl_call _ rfl rfl ht rfl rfl rfl rfl can_84 hcall ?_
    clear hcall
    rintro _ w ⟨rfl, hpost⟩ a ht
    replace hm := (hm.pick (own' := [] ++ [.blk b1 35 [.int .i64 p, .slice A m c], .kv b (kvS k_)]) [0, 1] rfl (by decide)).backL hpost
    clear hpost
    refine wpl rfl rfl ht (ev_assign ht rfl rfl) ?_
    intro a ht
    refine wpList_nil ?_
    refine then_normal ?_
    refine wp_seq ?_
    refine wp_seq ?_
    refine wpr ?_
    refine wpl rfl rfl ht (ev_move ht rfl rfl) ?_
    intro a ht
    refine wpl rfl rfl ht (ev_move ht rfl rfl) ?_
    intro a ht
    refine wpl rfl rfl ht (ev_lookup (f := fun k : ByteArray => Value.string k) (m := k_) (k := t4) 1 ht hm rfl rfl rfl mu_42 (keyS und_9) zv_2 rfl) ?_
    intro a ht
    refine wpl rfl rfl ht (ev_move ht rfl rfl) ?_
    intro a ht
    refine wpl rfl rfl ht (ev_extract ht rfl rfl rfl) ?_
    intro a ht
    refine wpl rfl rfl ht (ev_extract ht rfl rfl rfl) ?_
    intro a ht
    refine wpl rfl rfl ht (ev_assign ht rfl rfl) ?_
    intro a ht
    refine wpl rfl rfl ht (ev_assign ht rfl rfl) ?_
    intro a ht
    refine wpList_nil ?_
    refine then_normal ?_
    refine wp_seq ?_
    refine wpr ?_
    refine wpl rfl rfl ht (ev_move ht rfl rfl) ?_
    intro a ht
    refine wpList_nil ?_
    refine then_normal ?_
    by_cases h5 : ((kvGet k_ t4).isSome) = true
    · replace H := ite_yes h5 H
      refine wpc_yes ht rfl h5 ?_
      refine wp_seq ?_
      refine wpr ?_
      refine wpl rfl rfl ht (ev_move ht rfl rfl) ?_
      intro a ht
      refine wpl rfl rfl ht (ev_assign ht rfl rfl) ?_
      intro a ht
      refine wpList_nil ?_
      refine then_normal ?_
      refine wp_ret ?_
      refine then_ret ?_
      have hres := ht.res (P := Try.prog) (w := w) (rs := [.tmp 4]) (vs := [.int .i64 ((kvGet k_ t4).getD 0)]) (.tmp rfl .nil)
      obtain rfl := Option.some.inj H
      exact leave ht rfl hres ⟨rfl, ((hm.pick [1] rfl (by decide)).pickφ [] rfl).post fun _ h => h⟩
    · replace H := ite_no h5 H
      refine wpc_no ht rfl (Bool.eq_false_iff.mpr h5) ?_
      refine wp_skip ?_
      refine then_normal ?_
      refine wp_seq ?_
      refine wpr ?_
      refine wpl rfl rfl ht (ev_load_agg (xs := [.int .i64 p, .slice A m c]) ht rfl rfl ag_35 (hm.blk_all 0 rfl)) ?_
      intro a ht
      obtain ⟨t6, et6, H⟩ := bind_get H
      have hcall := impl_position_mover.calls k _ _ A c m p p2 _ ((fun (hq : Ms _ _ _ ([] ++ [.blk b1 35 [.int .i64 p, .slice A m c], .kv b (kvS k_)]) _ _) => hq.lend (φp := [IntsAt A c m p2]) (allRO_cons (hq.lendFact 0 rfl) (allRO_nil))) (hm.pick (own' := [] ++ [.blk b1 35 [.int .i64 p, .slice A m c], .kv b (kvS k_)]) [0, 1] rfl (by decide))) et6
      refine wpl_call _ rfl rfl ht rfl rfl rfl rfl can_52 hcall ?_
      clear hcall
      rintro _ w ⟨rfl, hpost⟩ a ht
      replace hm := (hm.pick (own' := [] ++ [.blk b1 35 [.int .i64 p, .slice A m c], .kv b (kvS k_)]) [0, 1] rfl (by decide)).backL hpost
      clear hpost
      refine wpl rfl rfl ht (ev_arith ht rfl rfl rfl rfl) ?_
      intro a ht
      refine wpl rfl rfl ht (ev_assign ht rfl rfl) ?_
      intro a ht
      refine wpList_nil ?_
      refine then_normal ?_
      refine wp_seq ?_
      refine wp_seq ?_
      refine wpr ?_
      refine wpl rfl rfl ht (ev_fieldAddr ht rfl rfl fo_35_1) ?_
      intro a ht
      refine wpl rfl rfl ht (ev_load ht rfl rfl sc_22 (hm.blk_cell 0 rfl rfl)) ?_
      intro a ht
      refine wpl rfl rfl ht (ev_len_of ht rfl rfl und_22 (hm.fact (φ := IntsAt A c m p2) 0 rfl)) ?_
      intro a ht
      refine wpl rfl rfl ht (ev_move ht rfl rfl) ?_
      intro a ht
      refine wpList_nil ?_
      refine then_normal ?_
      refine wp_block ?_
      refine wpLoop (fun q a w => ∃ (ms0_1 : List (ByteArray × Int)) (xs0_2 : Int) (xs0_3 : Int), impl_player_outcome.l0 q p p2 t4 ms0_1 xs0_2 xs0_3 = some r ∧ q ≤ k ∧ Tm 58 [(0, .map (some b)), (3, .pointer (some ⟨b1, 0, none⟩)), (4, .int .i64 0), (6, .string t4), (32, .slice A m c), (33, .int .i64 (p2.length : Int)), (9, .int .i64 xs0_2), (34, .int .i64 xs0_3)] a ∧ Ms X (fps [.kv b (kvS k_)]) w0 [.blk b1 35 [.int .i64 p, .slice A m c], .kv b (kvS ms0_1)] [IntsAt A c m p2] w) (k0 := k) ⟨k_, (w64 (1 - t6)), 0, H, Nat.le_refl _, ht.sub ⟨rfl, rfl, rfl, rfl, rfl, rfl, rfl, rfl, trivial⟩, (hm.pick [0, 1] rfl (by decide)).pickφ [0] rfl⟩ ?_
      clear H ht hm
      intro q7 a w hJ
      obtain ⟨ms0_1, xs0_2, xs0_3, H, hqq7, ht, hm⟩ := hJ
      cases q7 with
      | zero => cases H
      | succ q7 =>
      rw [impl_player_outcome.l0] at H
      refine wp_seq ?_
      refine wpr ?_
      refine wpl rfl rfl ht (ev_cmp ht rfl rfl rfl rfl) ?_
      intro a ht
      refine wpList_nil ?_
      refine then_normal ?_
      refine wp_seq ?_
      by_cases h8 : xs0_3 < (p2.length : Int)
      · replace H := ite_yes h8 H
        refine wpc_yes ht rfl (decide_eq_true h8) ?_
        refine wp_skip ?_
        refine then_normal ?_
        refine wp_seq ?_
        refine wp_block ?_
        refine wp_seq ?_
        refine wpr ?_
        refine wpl rfl rfl ht (ev_move ht rfl rfl) ?_
        intro a ht
        obtain ⟨t9, et9, H⟩ := bind_get H
        refine wpl rfl rfl ht (ev_index_ints ht rfl rfl rfl so_22 (hm.fact (φ := IntsAt A c m p2) 0 rfl) et9) ?_
        intro a ht
        refine wpl rfl rfl ht (ev_load ht rfl rfl sc_2 (RowAt.cell (hm.fact (φ := IntsAt A c m p2) 0 rfl) (ints_get et9) rfl)) ?_
        intro a ht
        refine wpl rfl rfl ht (ev_assign ht rfl rfl) ?_
        intro a ht
        refine wpl rfl rfl ht (ev_assign ht rfl rfl) ?_
        intro a ht
        refine wpList_nil ?_
        refine then_normal ?_
        refine wp_seq ?_
        refine wp_seq ?_
        refine wpr ?_
        refine wpl rfl rfl ht (ev_move ht rfl rfl) ?_
        intro a ht
        refine wpl rfl rfl ht (ev_cmp ht rfl rfl rfl rfl) ?_
        intro a ht
        refine wpList_nil ?_
        refine then_normal ?_
        by_cases h10 : t9 ≥ 0
        · replace H := ite_yes h10 H
          refine wpc_yes ht rfl (decide_eq_true h10) ?_
          refine wp_exit ?_
          refine then_exit ?_
          refine blk_hit ?_
          refine then_normal ?_
          refine wpr ?_
          refine wpl rfl rfl ht (ev_arith ht rfl rfl rfl rfl) ?_
          intro a ht
          refine wpl rfl rfl ht (ev_move ht rfl rfl) ?_
          intro a ht
          refine wpList_nil ?_
          exact then_normal ⟨q7, by omega, ms0_1, xs0_2, (w64 (xs0_3 + 1)), H, by omega, ht.sub ⟨rfl, rfl, rfl, rfl, rfl, rfl, rfl, rfl, trivial⟩, (hm.pick [0, 1] rfl (by decide)).pickφ [0] rfl⟩
        · replace H := ite_no h10 H
          refine wpc_no ht rfl (decide_eq_false h10) ?_
          refine wp_skip ?_
          refine then_normal ?_
          refine wp_seq ?_
          refine wpr ?_
          refine wpl rfl rfl ht (ev_move ht rfl rfl) ?_
          intro a ht
          refine wpl rfl rfl ht (ev_load_agg (xs := [.int .i64 p, .slice A m c]) ht rfl rfl ag_35 (hm.blk_all 0 rfl)) ?_
          intro a ht
          refine wpl rfl rfl ht (ev_move ht rfl rfl) ?_
          intro a ht
          obtain ⟨t11, et11, H⟩ := bind_get H
          have hcall := impl_position_moved.calls q7 _ _ A c m p p2 xs0_3 _ ((fun (hq : Ms _ _ _ ([] ++ [.blk b1 35 [.int .i64 p, .slice A m c], .kv b (kvS ms0_1)]) _ _) => hq.lend (φp := [IntsAt A c m p2]) (allRO_cons (hq.lendFact 0 rfl) (allRO_nil))) (hm.pick (own' := [] ++ [.blk b1 35 [.int .i64 p, .slice A m c], .kv b (kvS ms0_1)]) [0, 1] rfl (by decide))) et11
          refine wpl_call _ rfl rfl ht rfl rfl rfl rfl can_50 hcall ?_
          clear hcall
          rintro _ w ⟨A12, c13, m14, rfl, hpost⟩ a ht
          replace hm := (hm.pick (own' := [] ++ [.blk b1 35 [.int .i64 p, .slice A m c], .kv b (kvS ms0_1)]) [0, 1] rfl (by decide)).backL hpost
          clear hpost
          obtain ⟨t15, et15, H⟩ := bind_get H
          have hcall := ih q7 (by omega) _ _ b A12 c13 m14 ms0_1 t11.1 t11.2 _ ((fun (hq : Ms _ _ _ ([.kv b (kvS ms0_1)] ++ [.vec A12 c13 2 1 m14 (ints t11.2), .blk b1 35 [.int .i64 p, .slice A m c]]) _ _) => hq.lend (φp := [IntsAt A12 c13 m14 t11.2]) (allRO_cons (hq.lendVec 0 rfl) (allRO_nil))) (hm.pick (own' := [.kv b (kvS ms0_1)] ++ [.vec A12 c13 2 1 m14 (ints t11.2), .blk b1 35 [.int .i64 p, .slice A m c]]) [2, 0, 1] rfl (by decide))) et15
          refine wpl_call _ rfl rfl ht rfl rfl rfl rfl can_64 hcall ?_
          clear hcall
          rintro _ w ⟨rfl, hpost⟩ a ht
          replace hm := (hm.pick (own' := [.kv b (kvS ms0_1)] ++ [.vec A12 c13 2 1 m14 (ints t11.2), .blk b1 35 [.int .i64 p, .slice A m c]]) [2, 0, 1] rfl (by decide)).backL hpost
          clear hpost
          refine wpl rfl rfl ht (ev_assign ht rfl rfl) ?_
          intro a ht
          refine wpList_nil ?_
          refine then_normal ?_
          refine wp_seq ?_
          refine wp_seq ?_
          refine wpr ?_
          refine wpl rfl rfl ht (ev_move ht rfl rfl) ?_
          intro a ht
          refine wpl rfl rfl ht (ev_load_agg (xs := [.int .i64 p, .slice A m c]) ht rfl rfl ag_35 (hm.blk_all 2 rfl)) ?_
          intro a ht
          obtain ⟨t16, et16, H⟩ := bind_get H
          have hcall := impl_position_mover.calls q7 _ _ A c m p p2 _ ((fun (hq : Ms _ _ _ ([] ++ [.kv b (kvS t15.2), .vec A12 c13 2 1 m14 (ints t11.2), .blk b1 35 [.int .i64 p, .slice A m c]]) _ _) => hq.lend (φp := [IntsAt A c m p2]) (allRO_cons (hq.lendFact 0 rfl) (allRO_nil))) (hm.pick (own' := [] ++ [.kv b (kvS t15.2), .vec A12 c13 2 1 m14 (ints t11.2), .blk b1 35 [.int .i64 p, .slice A m c]]) [0, 1, 2] rfl (by decide))) et16
          refine wpl_call _ rfl rfl ht rfl rfl rfl rfl can_52 hcall ?_
          clear hcall
          rintro _ w ⟨rfl, hpost⟩ a ht
          replace hm := (hm.pick (own' := [] ++ [.kv b (kvS t15.2), .vec A12 c13 2 1 m14 (ints t11.2), .blk b1 35 [.int .i64 p, .slice A m c]]) [0, 1, 2] rfl (by decide)).backL hpost
          clear hpost
          refine wpl rfl rfl ht (ev_cmp ht rfl rfl rfl rfl) ?_
          intro a ht
          refine wpList_nil ?_
          refine then_normal ?_
          by_cases h17 : t15.1 = t16
          · replace H := ite_yes h17 H
            refine wpc_yes ht rfl (decide_eq_true h17) ?_
            refine wp_seq ?_
            refine wpr ?_
            refine wpl rfl rfl ht (ev_move ht rfl rfl) ?_
            intro a ht
            refine wpl rfl rfl ht (ev_assign ht rfl rfl) ?_
            intro a ht
            refine wpList_nil ?_
            refine then_normal ?_
            refine wp_exit ?_
            refine then_exit ?_
            refine blk_miss (by decide) ?_
            refine then_exit ?_
            refine then_exit ?_
            refine blk_hit ?_
            refine then_normal ?_
            refine wp_seq ?_
            refine wpr ?_
            refine wpl rfl rfl ht (ev_move ht rfl rfl) ?_
            intro a ht
            refine wpl rfl rfl ht (ev_move ht rfl rfl) ?_
            intro a ht
            refine wpl rfl rfl ht (ev_move ht rfl rfl) ?_
            intro a ht
            refine wpl_mapUpdate (f := fun k : ByteArray => Value.string k) (m := t15.2) (k := t4) (v := t15.1) 0 rfl rfl ht hm rfl rfl rfl rfl mu_42 (keyS und_9) rfl ?_
            intro a ht w hm
            refine wpList_nil ?_
            refine then_normal ?_
            refine wp_seq ?_
            refine wpr ?_
            refine wpl rfl rfl ht (ev_move ht rfl rfl) ?_
            intro a ht
            refine wpl rfl rfl ht (ev_assign ht rfl rfl) ?_
            intro a ht
            refine wpList_nil ?_
            refine then_normal ?_
            refine wp_ret ?_
            have hres := ht.res (P := Try.prog) (w := w) (rs := [.tmp 4]) (vs := [.int .i64 t15.1]) (.tmp rfl .nil)
            obtain rfl := Option.some.inj H
            exact leave ht rfl hres ⟨rfl, ((hm.pick [0] rfl (by decide)).pickφ [] rfl).post fun _ h => h⟩
          · replace H := ite_no h17 H
            refine wpc_no ht rfl (decide_eq_false h17) ?_
            refine wp_skip ?_
            refine then_normal ?_
            refine wp_seq ?_
            refine wpr ?_
            refine wpl rfl rfl ht (ev_move ht rfl rfl) ?_
            intro a ht
            refine wpl rfl rfl ht (ev_cmp ht rfl rfl rfl rfl) ?_
            intro a ht
            refine wpList_nil ?_
            refine then_normal ?_
            by_cases h18 : t15.1 = 2
            · replace H := ite_yes h18 H
              refine wpc_yes ht rfl (decide_eq_true h18) ?_
              refine wpr ?_
              refine wpl rfl rfl ht (ev_assign ht rfl rfl) ?_
              intro a ht
              refine wpList_nil ?_
              refine blk_normal ?_
              refine then_normal ?_
              refine wpr ?_
              refine wpl rfl rfl ht (ev_arith ht rfl rfl rfl rfl) ?_
              intro a ht
              refine wpl rfl rfl ht (ev_move ht rfl rfl) ?_
              intro a ht
              refine wpList_nil ?_
              exact then_normal ⟨q7, by omega, t15.2, 2, (w64 (xs0_3 + 1)), H, by omega, ht.sub ⟨rfl, rfl, rfl, rfl, rfl, rfl, rfl, rfl, trivial⟩, (hm.pick [2, 0] rfl (by decide)).pickφ [0] rfl⟩
            · replace H := ite_no h18 H
              refine wpc_no ht rfl (decide_eq_false h18) ?_
              refine wp_skip ?_
              refine blk_normal ?_
              refine then_normal ?_
              refine wpr ?_
              refine wpl rfl rfl ht (ev_arith ht rfl rfl rfl rfl) ?_
              intro a ht
              refine wpl rfl rfl ht (ev_move ht rfl rfl) ?_
              intro a ht
              refine wpList_nil ?_
              exact then_normal ⟨q7, by omega, t15.2, xs0_2, (w64 (xs0_3 + 1)), H, by omega, ht.sub ⟨rfl, rfl, rfl, rfl, rfl, rfl, rfl, rfl, trivial⟩, (hm.pick [2, 0] rfl (by decide)).pickφ [0] rfl⟩
      · replace H := ite_no h8 H
        refine wpc_no ht rfl (decide_eq_false h8) ?_
        refine wp_exit ?_
        refine then_exit ?_
        refine then_exit ?_
        refine blk_hit ?_
        refine then_normal ?_
        refine wp_seq ?_
        refine wpr ?_
        refine wpl rfl rfl ht (ev_move ht rfl rfl) ?_
        intro a ht
        refine wpl rfl rfl ht (ev_move ht rfl rfl) ?_
        intro a ht
        refine wpl rfl rfl ht (ev_move ht rfl rfl) ?_
        intro a ht
        refine wpl_mapUpdate (f := fun k : ByteArray => Value.string k) (m := ms0_1) (k := t4) (v := xs0_2) 1 rfl rfl ht hm rfl rfl rfl rfl mu_42 (keyS und_9) rfl ?_
        intro a ht w hm
        refine wpList_nil ?_
        refine then_normal ?_
        refine wp_seq ?_
        refine wpr ?_
        refine wpl rfl rfl ht (ev_move ht rfl rfl) ?_
        intro a ht
        refine wpl rfl rfl ht (ev_assign ht rfl rfl) ?_
        intro a ht
        refine wpList_nil ?_
        refine then_normal ?_
        refine wp_ret ?_
        have hres := ht.res (P := Try.prog) (w := w) (rs := [.tmp 4]) (vs := [.int .i64 xs0_2]) (.tmp rfl .nil)
        obtain rfl := Option.some.inj H
        exact leave ht rfl hres ⟨rfl, ((hm.pick [1] rfl (by decide)).pickφ [] rfl).post fun _ h => h⟩

/-! ### impl_player_best_1: function 77 ((loop.example/g01362/impl.player).best$1) -/
def impl_player_best_1.f (k : Nat) (e : Int) (x : List (ByteArray × Int)) (x2 : Int) (x3 : List Int) (x4 : Int) : Option (Bool × List (ByteArray × Int)) := (impl_position_moved.f k x2 x3 e).bind fun t1 => (impl_player_outcome.f k x t1.1 t1.2).bind fun t5 => some (decide (t5.1 = x4), t5.2)
set_option maxRecDepth 100000 in
set_option maxHeartbeats 1000000 in
theorem impl_player_best_1.calls (k : Nat) (X : List Nat) (w0 : World) (b : Nat) (b2 : Nat) (b3 : Nat) (A : Option Addr) (c : Nat) (m : Nat) (b4 : Nat) (e : Int) (x : List (ByteArray × Int)) (x2 : Int) (x3 : List Int) (x4 : Int) (r : Bool × List (ByteArray × Int))
    (hp : Pre X w0 [.blk b 42 [.map (some b2)], .kv b2 (kvS x), .blk b3 35 [.int .i64 x2, .slice A m c], .blk b4 2 [.int .i64 x4]] [IntsAt A c m x3]) (H : impl_player_best_1.f k e x x2 x3 x4 = some r) :
    Calls Try.prog 77 [.int .i64 e, .pointer (some ⟨b, 0, none⟩), .pointer (some ⟨b3, 0, none⟩), .pointer (some ⟨b4, 0, none⟩)].toArray w0 (Ret fun v w => v = .bool r.1 ∧ Post X (fps [.blk b 42 [.map (some b2)], .kv b2 (kvS x), .blk b3 35 [.int .i64 x2, .slice A m c], .blk b4 2 [.int .i64 x4]]) w0 [.blk b 42 [.map (some b2)], .kv b2 (kvS r.2), .blk b3 35 [.int .i64 x2, .slice A m c], .blk b4 2 [.int .i64 x4]] [] w) := by
  unfold impl_player_best_1.f at H
  refine enterM (n := 13) hp Try.func77 rfl rfl (Nat.le_of_ble_eq_true rfl) fun a w ht hm => ?_
  refine wp_seq ?_
  refine wpr ?_
  refine wpl rfl rfl ht (ev_assign ht rfl rfl) ?_
  intro a ht
  refine wpList_nil ?_
  refine then_normal ?_
  refine wp_seq ?_
  refine wph_begin (fun w => Ms X (fps [.blk b 42 [.map (some b2)], .kv b2 (kvS x), .blk b3 35 [.int .i64 x2, .slice A m c], .blk b4 2 [.int .i64 x4]]) w0 [.blk b 42 [.map (some b2)], .blk b3 35 [.int .i64 x2, .slice A m c], .blk b4 2 [.int .i64 x4]] [IntsAt A c m x3] w) mixed ?_
  replace hm := hm.drew
  have hS : Ms X (fps [.blk b 42 [.map (some b2)], .kv b2 (kvS x), .blk b3 35 [.int .i64 x2, .slice A m c], .blk b4 2 [.int .i64 x4]]) w0 [.blk b 42 [.map (some b2)], .blk b3 35 [.int .i64 x2, .slice A m c], .blk b4 2 [.int .i64 x4]] [IntsAt A c m x3] w.drew := (hm.pick [0, 2, 3] rfl (by decide)).pickφ [0] rfl
  generalize w.drew = w at hm hS ⊢
  refine wph_take (i := 0) rfl (by kernel_rfl) (by kernel_rfl) (by kernel_rfl) (fun _ _ _ h => h) rfl ht hS (wanted_plain rfl) (fun w hm => ev_load ht rfl rfl sc_42 (hm.blk_cell 0 rfl rfl)) ?_
  intro a ht
  refine wph_take (i := 1) rfl (by kernel_rfl) (by kernel_rfl) (by kernel_rfl) (fun _ _ _ h => h) rfl ht hS (wanted_plain rfl) (fun w hm => ev_load_agg (xs := [.int .i64 x2, .slice A m c]) ht rfl rfl ag_35 (hm.blk_all 1 rfl)) ?_
  intro a ht
  refine wph_take (i := 2) rfl (by kernel_rfl) (by kernel_rfl) (by kernel_rfl) (fun _ _ _ h => h) rfl ht hS (wanted_plain rfl) (fun w hm => ev_move ht rfl rfl) ?_
  intro a ht
  refine wph_take (i := 5) rfl (by kernel_rfl) (by kernel_rfl) (by kernel_rfl) (fun _ _ _ h => h) rfl ht hS (wanted_plain rfl) (fun w hm => ev_load ht rfl rfl sc_2 (hm.blk_cell 2 rfl rfl)) ?_
  intro a ht
  refine wph_one (i := 3) (by kernel_rfl) (wph_step rfl ?_)
  obtain ⟨t1, et1, H⟩ := bind_get H
  have hcall := impl_position_moved.calls k _ _ A c m x2 x3 e _ ((fun (hq : Ms _ _ _ ([] ++ [.blk b 42 [.map (some b2)], .kv b2 (kvS x), .blk b3 35 [.int .i64 x2, .slice A m c], .blk b4 2 [.int .i64 x4]]) _ _) => hq.lend (φp := [IntsAt A c m x3]) (allRO_cons (hq.lendFact 0 rfl) (allRO_nil))) (hm.pick (own' := [] ++ [.blk b 42 [.map (some b2)], .kv b2 (kvS x), .blk b3 35 [.int .i64 x2, .slice A m c], .blk b4 2 [.int .i64 x4]]) [0, 1, 2, 3] rfl (by decide))) et1
  refine wpl_call _ rfl rfl ht rfl rfl rfl rfl can_50 hcall ?_
  clear hcall
  rintro _ w ⟨A2, c3, m4, rfl, hpost⟩ a ht
  replace hm := (hm.pick (own' := [] ++ [.blk b 42 [.map (some b2)], .kv b2 (kvS x), .blk b3 35 [.int .i64 x2, .slice A m c], .blk b4 2 [.int .i64 x4]]) [0, 1, 2, 3] rfl (by decide)).backL hpost
  clear hpost
  have hS : Ms X (fps [.blk b 42 [.map (some b2)], .kv b2 (kvS x), .blk b3 35 [.int .i64 x2, .slice A m c], .blk b4 2 [.int .i64 x4]]) w0 [.blk b 42 [.map (some b2)], .blk b3 35 [.int .i64 x2, .slice A m c], .blk b4 2 [.int .i64 x4]] [IntsAt A c m x3] w := (hm.pick [1, 3, 4] rfl (by decide)).pickφ [0] rfl
  refine wpList_nil (qn ⟨hS, ?_⟩)
  refine wph_one (i := 4) (by kernel_rfl) (wph_step rfl ?_)
  obtain ⟨t5, et5, H⟩ := bind_get H
  have hcall := impl_player_outcome.calls k _ _ b2 A2 c3 m4 x t1.1 t1.2 _ ((fun (hq : Ms _ _ _ ([.kv b2 (kvS x)] ++ [.vec A2 c3 2 1 m4 (ints t1.2), .blk b 42 [.map (some b2)], .blk b3 35 [.int .i64 x2, .slice A m c], .blk b4 2 [.int .i64 x4]]) _ _) => hq.lend (φp := [IntsAt A2 c3 m4 t1.2]) (allRO_cons (hq.lendVec 0 rfl) (allRO_nil))) (hm.pick (own' := [.kv b2 (kvS x)] ++ [.vec A2 c3 2 1 m4 (ints t1.2), .blk b 42 [.map (some b2)], .blk b3 35 [.int .i64 x2, .slice A m c], .blk b4 2 [.int .i64 x4]]) [2, 0, 1, 3, 4] rfl (by decide))) et5
  refine wpl_call _ rfl rfl ht rfl rfl rfl rfl can_64 hcall ?_
  clear hcall
  rintro _ w ⟨rfl, hpost⟩ a ht
  replace hm := (hm.pick (own' := [.kv b2 (kvS x)] ++ [.vec A2 c3 2 1 m4 (ints t1.2), .blk b 42 [.map (some b2)], .blk b3 35 [.int .i64 x2, .slice A m c], .blk b4 2 [.int .i64 x4]]) [2, 0, 1, 3, 4] rfl (by decide)).backL hpost
  clear hpost
  have hS : Ms X (fps [.blk b 42 [.map (some b2)], .kv b2 (kvS x), .blk b3 35 [.int .i64 x2, .slice A m c], .blk b4 2 [.int .i64 x4]]) w0 [.blk b 42 [.map (some b2)], .blk b3 35 [.int .i64 x2, .slice A m c], .blk b4 2 [.int .i64 x4]] [IntsAt A c m x3] w := (hm.pick [2, 3, 4] rfl (by decide)).pickφ [0] rfl
  refine wpList_nil (qn ⟨hS, ?_⟩)
  refine wph_take (i := 6) rfl (by kernel_rfl) (by kernel_rfl) (by kernel_rfl) (fun _ _ _ h => h) rfl ht hS (wanted_plain rfl) (fun w hm => ev_cmp ht rfl rfl rfl rfl) ?_
  intro a ht
  refine wph_take (i := 7) rfl (by kernel_rfl) (by kernel_rfl) (by kernel_rfl) (fun _ _ _ h => h) rfl ht hS (wanted_plain rfl) (fun w hm => ev_assign ht rfl rfl) ?_
  intro a ht
  refine wph_done (by kernel_rfl) ?_
  refine then_normal ?_
  refine wp_ret ?_
  have hres := ht.res (P := Try.prog) (w := w) (rs := [.tmp 5]) (vs := [.bool (decide (t5.1 = x4))]) (.tmp rfl .nil)
  obtain rfl := Option.some.inj H
  exact leave ht rfl hres ⟨rfl, ((hm.pick [2, 0, 3, 4] rfl (by decide)).pickφ [] rfl).post fun _ h => h⟩

end Go.Proofs.Ytfbdcidedjocdaa.G
