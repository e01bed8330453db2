/- What each Go function computes, as a Lean function, and the proof that it does: written by a program of this session (wip/gen), part 6. -/
import Derived.Test.YtfbdcidedjocdaaGFnExactLeastPosition5
namespace Go.Proofs.Ytfbdcidedjocdaa.G
open Go Go.RowKit Go.Proofs.Ytfbdcidedjocdaa.K
set_option linter.unusedVariables false
set_option linter.unusedSimpArgs false

/-! ### impl_position_isPosition: function 40 ((loop.example/g01362/impl.position).isPosition) -/
def impl_position_isPosition.l0 : Nat → List (List Int) → Int → Int → Option (Bool)
  | 0, _, _, _ => none
  | q19 + 1, t13, t18, xs0_1 => if xs0_1 < t18 then ((slices_ContainsFunc_int64_int64__position_isPosition_1.f q19 t13 xs0_1).bind fun t22 => if t22 = true then (impl_position_isPosition.l0 q19 t13 t18 (w64 (xs0_1 + 1))) else (some true)) else (some (decide ((t13.length : Int) = 0)))
def impl_position_isPosition.f (k : Nat) (p : Int) (p2 : List Int) : Option (Bool) := (impl_position_mover.f k p p2).bind fun t2 => (impl_in.f t2 0 1).bind fun t3 => if t3 = true then ((impl_position_mover.f k p p2).bind fun t5 => (impl_position_triangles.f k p p2 t5).bind fun t6 => if (t6.length : Int) > 0 then (some false) else ((impl_position_mover.f k p p2).bind fun t12 => (impl_position_triangles.f k p p2 (w64 (1 - t12))).bind fun t13 => (impl_size_int64.f p2).bind fun t18 => impl_position_isPosition.l0 k t13 t18 0)) else (some false)
set_option maxRecDepth 100000 in
set_option maxHeartbeats 1000000 in
theorem impl_position_isPosition.calls (k : Nat) (X : List Nat) (w0 : World) (A : Option Addr) (c : Nat) (m : Nat) (p : Int) (p2 : List Int) (r : Bool)
    (hp : Pre X w0 [] [IntsAt A c m p2]) (H : impl_position_isPosition.f k p p2 = some r) :
    Calls Try.prog 40 [.agg [.int .i64 p, .slice A m c].toArray].toArray w0 (Ret fun v w => v = .bool r ∧ Post X (fps []) w0 [] [] w) := by
  unfold impl_position_isPosition.f at H
  refine enterM (n := 36) hp Try.func40 rfl rfl (Nat.le_of_ble_eq_true rfl) fun a w ht hm => ?_
  refine wp_seq ?_
  refine wpr ?_
  refine wpl_box rfl rfl ht hm rfl rfl rfl ?_
  intro b1 a ht w hm
  refine wpl rfl rfl ht (ev_assign ht rfl rfl) ?_
  intro a ht
  refine wpList_nil ?_
  refine then_normal ?_
  refine wp_seq ?_
  refine wp_seq ?_
  refine wph_begin (fun w => Ms X (fps []) w0 [.blk b1 35 [.int .i64 p, .slice A m c]] [IntsAt A c m p2] w) mixed ?_
  replace hm := hm.drew
  have hS : Ms X (fps []) w0 [.blk b1 35 [.int .i64 p, .slice A m c]] [IntsAt A c m p2] w.drew := (hm.pick [0] rfl (by decide)).pickφ [0] rfl
  generalize w.drew = w at hm hS ⊢
  refine wph_take (i := 0) rfl (by kernel_rfl) (by kernel_rfl) (by kernel_rfl) (fun _ _ _ h => h) rfl ht hS (wanted_plain rfl) (fun w hm => ev_load_agg (xs := [.int .i64 p, .slice A m c]) ht rfl rfl ag_35 (hm.blk_all 0 rfl)) ?_
  intro a ht
  refine wph_one (i := 1) (by kernel_rfl) (wph_step rfl ?_)
  obtain ⟨t2, et2, H⟩ := bind_get H
  have hcall := impl_position_mover.calls k _ _ A c m p p2 _ ((fun (hq : Ms _ _ _ ([] ++ [.blk b1 35 [.int .i64 p, .slice A m c]]) _ _) => hq.lend (φp := [IntsAt A c m p2]) (allRO_cons (hq.lendFact 0 rfl) (allRO_nil))) (hm.pick (own' := [] ++ [.blk b1 35 [.int .i64 p, .slice A m c]]) [0] rfl (by decide))) et2
  refine wpl_call _ rfl rfl ht rfl rfl rfl rfl can_52 hcall ?_
  clear hcall
  rintro _ w ⟨rfl, hpost⟩ a ht
  replace hm := (hm.pick (own' := [] ++ [.blk b1 35 [.int .i64 p, .slice A m c]]) [0] rfl (by decide)).backL hpost
  clear hpost
  have hS : Ms X (fps []) w0 [.blk b1 35 [.int .i64 p, .slice A m c]] [IntsAt A c m p2] w := (hm.pick [0] rfl (by decide)).pickφ [0] rfl
  refine wpList_nil (qn ⟨hS, ?_⟩)
  refine wph_one (i := 2) (by kernel_rfl) (wph_step rfl ?_)
  obtain ⟨t3, et3, H⟩ := bind_get H
  have hcall := impl_in.calls _ _ t2 0 1 _ ((fun (hq : Ms _ _ _ ([] ++ [.blk b1 35 [.int .i64 p, .slice A m c]]) _ _) => hq.lend (φp := []) (allRO_nil)) (hm.pick (own' := [] ++ [.blk b1 35 [.int .i64 p, .slice A m c]]) [0] rfl (by decide))) et3
  refine wpl_call _ rfl rfl ht rfl rfl rfl rfl can_58 hcall ?_
  clear hcall
  rintro _ w ⟨rfl, hpost⟩ a ht
  replace hm := (hm.pick (own' := [] ++ [.blk b1 35 [.int .i64 p, .slice A m c]]) [0] rfl (by decide)).backL hpost
  clear hpost
  have hS : Ms X (fps []) w0 [.blk b1 35 [.int .i64 p, .slice A m c]] [IntsAt A c m p2] w := (hm.pick [0] rfl (by decide)).pickφ [0] rfl
  refine wpList_nil (qn ⟨hS, ?_⟩)
  refine wph_take (i := 3) rfl (by kernel_rfl) (by kernel_rfl) (by kernel_rfl) (fun _ _ _ h => h) rfl ht hS (wanted_plain rfl) (fun w hm => ev_not ht rfl rfl) ?_
  intro a ht
  refine wph_take (i := 4) rfl (by kernel_rfl) (by kernel_rfl) (by kernel_rfl) (fun _ _ _ h => h) rfl ht hS (wanted_plain rfl) (fun w hm => ev_move ht rfl rfl) ?_
  intro a ht
  by_cases h4 : t3 = true
  · replace H := ite_yes h4 H
    refine wph_take (i := 5) rfl (by kernel_rfl) (by kernel_rfl) (by kernel_rfl) (fun _ _ _ h => h) rfl ht hS (wanted_yes rfl ht rfl ((not_t h4))) (fun w hm => ev_load_agg (xs := [.int .i64 p, .slice A m c]) ht rfl rfl ag_35 (hm.blk_all 0 rfl)) ?_
    intro a ht
    refine wph_take (i := 6) rfl (by kernel_rfl) (by kernel_rfl) (by kernel_rfl) (fun _ _ _ h => h) rfl ht hS (wanted_yes rfl ht rfl ((not_t h4))) (fun w hm => ev_load_agg (xs := [.int .i64 p, .slice A m c]) ht rfl rfl ag_35 (hm.blk_all 0 rfl)) ?_
    intro a ht
    refine wph_one (i := 7) (by kernel_rfl) (wph_step rfl ?_)
    refine wpl_yes rfl ht rfl ((not_t h4)) ?_
    obtain ⟨t5, et5, H⟩ := bind_get H
    have hcall := impl_position_mover.calls k _ _ A c m p p2 _ ((fun (hq : Ms _ _ _ ([] ++ [.blk b1 35 [.int .i64 p, .slice A m c]]) _ _) => hq.lend (φp := [IntsAt A c m p2]) (allRO_cons (hq.lendFact 0 rfl) (allRO_nil))) (hm.pick (own' := [] ++ [.blk b1 35 [.int .i64 p, .slice A m c]]) [0] rfl (by decide))) et5
    refine wpl_call _ rfl rfl ht rfl rfl rfl rfl can_52 hcall ?_
    clear hcall
    rintro _ w ⟨rfl, hpost⟩ a ht
    replace hm := (hm.pick (own' := [] ++ [.blk b1 35 [.int .i64 p, .slice A m c]]) [0] rfl (by decide)).backL hpost
    clear hpost
    have hS : Ms X (fps []) w0 [.blk b1 35 [.int .i64 p, .slice A m c]] [IntsAt A c m p2] w := (hm.pick [0] rfl (by decide)).pickφ [0] rfl
    refine wpList_nil (qn ⟨hS, ?_⟩)
    refine wph_one (i := 8) (by kernel_rfl) (wph_step rfl ?_)
    refine wpl_yes rfl ht rfl ((not_t h4)) ?_
    obtain ⟨t6, et6, H⟩ := bind_get H
    have hcall := impl_position_triangles.calls k _ _ A c m p p2 t5 _ ((hm.pick (own' := [] ++ [.blk b1 35 [.int .i64 p, .slice A m c]]) [0] rfl (by decide)).give (passed := []) (rest := [.blk b1 35 [.int .i64 p, .slice A m c]]) (φp := [IntsAt A c m p2]) [0] rfl) et6
    refine wpl_call _ rfl rfl ht rfl rfl rfl rfl can_62 hcall ?_
    clear hcall
    rintro _ w ⟨A7, c8, m9, vs10, rfl, hpost⟩ a ht
    replace hm := (hm.pick (own' := [] ++ [.blk b1 35 [.int .i64 p, .slice A m c]]) [0] rfl (by decide)).back hpost
    clear hpost
    have hS : Ms X (fps []) w0 [.blk b1 35 [.int .i64 p, .slice A m c]] [IntsAt A c m p2] w := (hm.pick [1] rfl (by decide)).pickφ [1] rfl
    refine wpList_nil (qn ⟨hS, ?_⟩)
    refine wph_one (i := 9) (by kernel_rfl) (wph_step rfl ?_)
    refine wpl_yes rfl ht rfl ((not_t h4)) ?_
    refine wpl rfl rfl ht (ev_len_rows ht rfl rfl und_52 (hm.rowsOf 0 0 rfl rfl)) ?_
    intro a ht
    have hS : Ms X (fps []) w0 [.blk b1 35 [.int .i64 p, .slice A m c]] [IntsAt A c m p2] w := (hm.pick [1] rfl (by decide)).pickφ [1] rfl
    refine wpList_nil (qn ⟨hS, ?_⟩)
    refine wph_take (i := 10) rfl (by kernel_rfl) (by kernel_rfl) (by kernel_rfl) (fun _ _ _ h => h) rfl ht hS (wanted_yes rfl ht rfl ((not_t h4))) (fun w hm => ev_cmp ht rfl rfl rfl rfl) ?_
    intro a ht
    refine wph_take (i := 11) rfl (by kernel_rfl) (by kernel_rfl) (by kernel_rfl) (fun _ _ _ h => h) rfl ht hS (wanted_plain rfl) (fun w hm => ev_pick_no ht rfl rfl (not_t h4) rfl) ?_
    intro a ht
    refine wph_done (by kernel_rfl) ?_
    refine then_normal ?_
    by_cases h11 : (t6.length : Int) > 0
    · replace H := ite_yes h11 H
      refine wpc_yes ht rfl (decide_eq_true h11) ?_
      refine wp_seq ?_
      refine wpr ?_
      refine wpl rfl rfl ht (ev_assign ht rfl rfl) ?_
      intro a ht
      refine wpList_nil ?_
      refine then_normal ?_
      refine wp_ret ?_
      refine then_ret ?_
      have hres := ht.res (P := Try.prog) (w := w) (rs := [.tmp 2]) (vs := [.bool false]) (.tmp rfl .nil)
      obtain rfl := Option.some.inj H
      exact leave ht rfl hres ⟨rfl, ((hm.pick [] rfl (by decide)).pickφ [] rfl).post fun _ h => h⟩
    · replace H := ite_no h11 H
      refine wpc_no ht rfl (decide_eq_false h11) ?_
      refine wp_skip ?_
      refine then_normal ?_
      refine wp_seq ?_
      refine wph_begin (fun w => Ms X (fps []) w0 [.vec A7 c8 22 1 m9 vs10, .blk b1 35 [.int .i64 p, .slice A m c]] [AllInts vs10 t6, IntsAt A c m p2] w) mixed ?_
      replace hm := hm.drew
      have hS : Ms X (fps []) w0 [.vec A7 c8 22 1 m9 vs10, .blk b1 35 [.int .i64 p, .slice A m c]] [AllInts vs10 t6, IntsAt A c m p2] w.drew := (hm.pick [0, 1] rfl (by decide)).pickφ [0, 1] rfl
      generalize w.drew = w at hm hS ⊢
      refine wph_take (i := 0) rfl (by kernel_rfl) (by kernel_rfl) (by kernel_rfl) (fun _ _ _ h => h) rfl ht hS (wanted_plain rfl) (fun w hm => ev_load_agg (xs := [.int .i64 p, .slice A m c]) ht rfl rfl ag_35 (hm.blk_all 1 rfl)) ?_
      intro a ht
      refine wph_take (i := 1) rfl (by kernel_rfl) (by kernel_rfl) (by kernel_rfl) (fun _ _ _ h => h) rfl ht hS (wanted_plain rfl) (fun w hm => ev_load_agg (xs := [.int .i64 p, .slice A m c]) ht rfl rfl ag_35 (hm.blk_all 1 rfl)) ?_
      intro a ht
      refine wph_one (i := 2) (by kernel_rfl) (wph_step rfl ?_)
      obtain ⟨t12, et12, H⟩ := bind_get H
      have hcall := impl_position_mover.calls k _ _ A c m p p2 _ ((fun (hq : Ms _ _ _ ([] ++ [.vec A7 c8 22 1 m9 vs10, .blk b1 35 [.int .i64 p, .slice A m c]]) _ _) => hq.lend (φp := [IntsAt A c m p2]) (allRO_cons (hq.lendFact 1 rfl) (allRO_nil))) (hm.pick (own' := [] ++ [.vec A7 c8 22 1 m9 vs10, .blk b1 35 [.int .i64 p, .slice A m c]]) [0, 1] rfl (by decide))) et12
      refine wpl_call _ rfl rfl ht rfl rfl rfl rfl can_52 hcall ?_
      clear hcall
      rintro _ w ⟨rfl, hpost⟩ a ht
      replace hm := (hm.pick (own' := [] ++ [.vec A7 c8 22 1 m9 vs10, .blk b1 35 [.int .i64 p, .slice A m c]]) [0, 1] rfl (by decide)).backL hpost
      clear hpost
      have hS : Ms X (fps []) w0 [.vec A7 c8 22 1 m9 vs10, .blk b1 35 [.int .i64 p, .slice A m c]] [AllInts vs10 t6, IntsAt A c m p2] w := (hm.pick [0, 1] rfl (by decide)).pickφ [0, 1] rfl
      refine wpList_nil (qn ⟨hS, ?_⟩)
      refine wph_take (i := 3) rfl (by kernel_rfl) (by kernel_rfl) (by kernel_rfl) (fun _ _ _ h => h) rfl ht hS (wanted_plain rfl) (fun w hm => ev_arith ht rfl rfl rfl rfl) ?_
      intro a ht
      refine wph_one (i := 4) (by kernel_rfl) (wph_step rfl ?_)
      obtain ⟨t13, et13, H⟩ := bind_get H
      have hcall := impl_position_triangles.calls k _ _ A c m p p2 (w64 (1 - t12)) _ ((hm.pick (own' := [] ++ [.vec A7 c8 22 1 m9 vs10, .blk b1 35 [.int .i64 p, .slice A m c]]) [0, 1] rfl (by decide)).give (passed := []) (rest := [.vec A7 c8 22 1 m9 vs10, .blk b1 35 [.int .i64 p, .slice A m c]]) (φp := [IntsAt A c m p2]) [1] rfl) et13
      refine wpl_call _ rfl rfl ht rfl rfl rfl rfl can_62 hcall ?_
      clear hcall
      rintro _ w ⟨A14, c15, m16, vs17, rfl, hpost⟩ a ht
      replace hm := (hm.pick (own' := [] ++ [.vec A7 c8 22 1 m9 vs10, .blk b1 35 [.int .i64 p, .slice A m c]]) [0, 1] rfl (by decide)).back hpost
      clear hpost
      have hS : Ms X (fps []) w0 [.vec A7 c8 22 1 m9 vs10, .blk b1 35 [.int .i64 p, .slice A m c]] [AllInts vs10 t6, IntsAt A c m p2] w := (hm.pick [1, 2] rfl (by decide)).pickφ [1, 2] rfl
      refine wpList_nil (qn ⟨hS, ?_⟩)
      refine wph_take (i := 5) rfl (by kernel_rfl) (by kernel_rfl) (by kernel_rfl) (fun _ _ _ h => h) rfl ht hS (wanted_plain rfl) (fun w hm => ev_assign ht rfl rfl) ?_
      intro a ht
      refine wph_done (by kernel_rfl) ?_
      refine then_normal ?_
      refine wp_seq ?_
      refine wp_seq ?_
      refine wpr ?_
      refine wpl rfl rfl ht (ev_fieldAddr ht rfl rfl fo_35_1) ?_
      intro a ht
      refine wpl rfl rfl ht (ev_load ht rfl rfl sc_22 (hm.blk_cell 2 rfl rfl)) ?_
      intro a ht
      obtain ⟨t18, et18, H⟩ := bind_get H
      have hcall := impl_size_int64.calls _ _ A c m p2 _ ((fun (hq : Ms _ _ _ ([] ++ [.vec A14 c15 22 1 m16 vs17, .vec A7 c8 22 1 m9 vs10, .blk b1 35 [.int .i64 p, .slice A m c]]) _ _) => hq.lend (φp := [IntsAt A c m p2]) (allRO_cons (hq.lendFact 2 rfl) (allRO_nil))) (hm.pick (own' := [] ++ [.vec A14 c15 22 1 m16 vs17, .vec A7 c8 22 1 m9 vs10, .blk b1 35 [.int .i64 p, .slice A m c]]) [0, 1, 2] rfl (by decide))) et18
      refine wpl_call _ rfl rfl ht rfl rfl rfl rfl can_59 hcall ?_
      clear hcall
      rintro _ w ⟨rfl, hpost⟩ a ht
      replace hm := (hm.pick (own' := [] ++ [.vec A14 c15 22 1 m16 vs17, .vec A7 c8 22 1 m9 vs10, .blk b1 35 [.int .i64 p, .slice A m c]]) [0, 1, 2] rfl (by decide)).backL hpost
      clear hpost
      refine wpl rfl rfl ht (ev_move ht rfl rfl) ?_
      intro a ht
      refine wpList_nil ?_
      refine then_normal ?_
      refine wp_block ?_
      refine wpLoop (fun q a w => ∃ (xs0_1 : Int), impl_position_isPosition.l0 q t13 t18 xs0_1 = some r ∧ q ≤ k ∧ Tm 36 [(2, .bool false), (3, .slice A14 m16 c15), (24, .int .i64 t18), (25, .int .i64 xs0_1)] a ∧ Ms X (fps []) w0 [.vec A14 c15 22 1 m16 vs17, .vec A7 c8 22 1 m9 vs10, .blk b1 35 [.int .i64 p, .slice A m c]] [AllInts vs17 t13, AllInts vs10 t6, IntsAt A c m p2] w) (k0 := k) ⟨0, H, Nat.le_refl _, ht.sub ⟨rfl, rfl, rfl, rfl, trivial⟩, (hm.pick [0, 1, 2] rfl (by decide)).pickφ [0, 1, 2] rfl⟩ ?_
      clear H ht hm
      intro q19 a w hJ
      obtain ⟨xs0_1, H, hqq19, ht, hm⟩ := hJ
      cases q19 with
      | zero => cases H
      | succ q19 =>
      rw [impl_position_isPosition.l0] at H
      refine wp_seq ?_
      refine wpr ?_
      refine wpl rfl rfl ht (ev_cmp ht rfl rfl rfl rfl) ?_
      intro a ht
      refine wpList_nil ?_
      refine then_normal ?_
      refine wp_seq ?_
      by_cases h20 : xs0_1 < t18
      · replace H := ite_yes h20 H
        refine wpc_yes ht rfl (decide_eq_true h20) ?_
        refine wp_skip ?_
        refine then_normal ?_
        refine wp_seq ?_
        refine wp_block ?_
        refine wp_seq ?_
        refine wpr ?_
        refine wpl rfl rfl ht (ev_move ht rfl rfl) ?_
        intro a ht
        refine wpl_alloc rfl rfl ht hm rfl zo_2 ?_
        intro b21 a ht w hm
        refine wpl_store_blk 0 rfl rfl ht hm rfl rfl rfl sz1_2 rfl rfl rfl ?_
        intro a ht w hm
        refine wpList_nil ?_
        refine then_normal ?_
        refine wp_seq ?_
        refine wpr ?_
        refine wpl rfl rfl ht (ev_move ht rfl rfl) ?_
        intro a ht
        refine wpl rfl rfl ht (ev_makeFunc ht rfl rfl rfl) ?_
        intro a ht
        obtain ⟨t22, et22, H⟩ := bind_get H
        have hcall := slices_ContainsFunc_int64_int64__position_isPosition_1.calls q19 _ _ A14 c15 m16 vs17 b21 t13 xs0_1 _ ((fun (hq : Ms _ _ _ ([.blk b21 2 [.int .i64 xs0_1]] ++ [.vec A14 c15 22 1 m16 vs17, .vec A7 c8 22 1 m9 vs10, .blk b1 35 [.int .i64 p, .slice A m c]]) _ _) => hq.lend (φp := [RowsAt A14 c15 m16 vs17 t13]) (allRO_cons (hq.lendRows 0 0 rfl rfl) (allRO_nil))) (hm.pick (own' := [.blk b21 2 [.int .i64 xs0_1]] ++ [.vec A14 c15 22 1 m16 vs17, .vec A7 c8 22 1 m9 vs10, .blk b1 35 [.int .i64 p, .slice A m c]]) [0, 1, 2, 3] rfl (by decide))) et22
        refine wpl_call _ rfl rfl ht rfl rfl rfl rfl can_72 hcall ?_
        clear hcall
        rintro _ w ⟨rfl, hpost⟩ a ht
        replace hm := (hm.pick (own' := [.blk b21 2 [.int .i64 xs0_1]] ++ [.vec A14 c15 22 1 m16 vs17, .vec A7 c8 22 1 m9 vs10, .blk b1 35 [.int .i64 p, .slice A m c]]) [0, 1, 2, 3] rfl (by decide)).backL hpost
        clear hpost
        refine wpl rfl rfl ht (ev_not ht rfl rfl) ?_
        intro a ht
        refine wpList_nil ?_
        refine then_normal ?_
        by_cases h23 : t22 = true
        · replace H := ite_yes h23 H
          refine wpc_no ht rfl (not_t h23) ?_
          refine wp_skip ?_
          refine blk_normal ?_
          refine then_normal ?_
          refine wpr ?_
          refine wpl rfl rfl ht (ev_arith ht rfl rfl rfl rfl) ?_
          intro a ht
          refine wpl rfl rfl ht (ev_move ht rfl rfl) ?_
          intro a ht
          refine wpList_nil ?_
          exact then_normal ⟨q19, by omega, (w64 (xs0_1 + 1)), H, by omega, ht.sub ⟨rfl, rfl, rfl, rfl, trivial⟩, (hm.pick [1, 2, 3] rfl (by decide)).pickφ [0, 1, 2] rfl⟩
        · replace H := ite_no h23 H
          refine wpc_yes ht rfl (not_f (Bool.eq_false_iff.mpr h23)) ?_
          refine wp_seq ?_
          refine wpr ?_
          refine wpl rfl rfl ht (ev_assign ht rfl rfl) ?_
          intro a ht
          refine wpList_nil ?_
          refine then_normal ?_
          refine wp_ret ?_
          refine blk_ret ?_
          refine then_ret ?_
          refine then_ret ?_
          refine blk_ret ?_
          refine then_ret ?_
          have hres := ht.res (P := Try.prog) (w := w) (rs := [.tmp 2]) (vs := [.bool true]) (.tmp rfl .nil)
          obtain rfl := Option.some.inj H
          exact leave ht rfl hres ⟨rfl, ((hm.pick [] rfl (by decide)).pickφ [] rfl).post fun _ h => h⟩
      · replace H := ite_no h20 H
        refine wpc_no ht rfl (decide_eq_false h20) ?_
        refine wp_exit ?_
        refine then_exit ?_
        refine then_exit ?_
        refine blk_hit ?_
        refine then_normal ?_
        refine wp_seq ?_
        refine wpr ?_
        refine wpl rfl rfl ht (ev_move ht rfl rfl) ?_
        intro a ht
        refine wpl rfl rfl ht (ev_len_rows ht rfl rfl und_52 (hm.rowsOf 0 0 rfl rfl)) ?_
        intro a ht
        refine wpl rfl rfl ht (ev_cmp ht rfl rfl rfl rfl) ?_
        intro a ht
        refine wpl rfl rfl ht (ev_assign ht rfl rfl) ?_
        intro a ht
        refine wpList_nil ?_
        refine then_normal ?_
        refine wp_ret ?_
        have hres := ht.res (P := Try.prog) (w := w) (rs := [.tmp 2]) (vs := [.bool (decide ((t13.length : Int) = 0))]) (.tmp rfl .nil)
        obtain rfl := Option.some.inj H
        exact leave ht rfl hres ⟨rfl, ((hm.pick [] rfl (by decide)).pickφ [] rfl).post fun _ h => h⟩
  · replace H := ite_no h4 H
    refine wph_pass (i := 5) rfl (by kernel_rfl) (by kernel_rfl) (by kernel_rfl) (fun _ _ _ h => h) rfl ht hS (wanted_no rfl ht rfl (by rw [(not_f (Bool.eq_false_iff.mpr h4))]; decide)) ?_
    intro a ht
    refine wph_pass (i := 6) rfl (by kernel_rfl) (by kernel_rfl) (by kernel_rfl) (fun _ _ _ h => h) rfl ht hS (wanted_no rfl ht rfl (by rw [(not_f (Bool.eq_false_iff.mpr h4))]; decide)) ?_
    intro a ht
    refine wph_pass (i := 7) rfl (by kernel_rfl) (by kernel_rfl) (by kernel_rfl) (fun _ _ _ h => h) rfl ht hS (wanted_no rfl ht rfl (by rw [(not_f (Bool.eq_false_iff.mpr h4))]; decide)) ?_
    intro a ht
    refine wph_pass (i := 8) rfl (by kernel_rfl) (by kernel_rfl) (by kernel_rfl) (fun _ _ _ h => h) rfl ht hS (wanted_no rfl ht rfl (by rw [(not_f (Bool.eq_false_iff.mpr h4))]; decide)) ?_
    intro a ht
    refine wph_pass (i := 9) rfl (by kernel_rfl) (by kernel_rfl) (by kernel_rfl) (fun _ _ _ h => h) rfl ht hS (wanted_no rfl ht rfl (by rw [(not_f (Bool.eq_false_iff.mpr h4))]; decide)) ?_
    intro a ht
    refine wph_pass (i := 10) rfl (by kernel_rfl) (by kernel_rfl) (by kernel_rfl) (fun _ _ _ h => h) rfl ht hS (wanted_no rfl ht rfl (by rw [(not_f (Bool.eq_false_iff.mpr h4))]; decide)) ?_
    intro a ht
    refine wph_take (i := 11) rfl (by kernel_rfl) (by kernel_rfl) (by kernel_rfl) (fun _ _ _ h => h) rfl ht hS (wanted_plain rfl) (fun w hm => ev_pick_yes ht rfl rfl (not_f (Bool.eq_false_iff.mpr h4)) rfl) ?_
    intro a ht
    refine wph_done (by kernel_rfl) ?_
    refine then_normal ?_
    refine wpc_yes ht rfl rfl ?_
    refine wp_seq ?_
    refine wpr ?_
    refine wpl rfl rfl ht (ev_assign ht rfl rfl) ?_
    intro a ht
    refine wpList_nil ?_
    refine then_normal ?_
    refine wp_ret ?_
    refine then_ret ?_
    have hres := ht.res (P := Try.prog) (w := w) (rs := [.tmp 2]) (vs := [.bool false]) (.tmp rfl .nil)
    obtain rfl := Option.some.inj H
    exact leave ht rfl hres ⟨rfl, ((hm.pick [] rfl (by decide)).pickφ [] rfl).post fun _ h => h⟩

/-! ### impl_position_code__always: function 46 ((loop.example/g01362/impl.position).code) -/
def impl_position_code__always.f (k : Nat) (p : Int) (p2 : List Int) : Option (Int) := (impl_position_isShape.f k p p2).bind fun t2 => if t2 = true then ((impl_always.f ).bind fun t4 => if t4 = true then ((impl_position_isPosition.f k p p2).bind fun t6 => if t6 = true then (some 0) else (some 1)) else (some 2)) else (some 2)
set_option maxRecDepth 100000 in
set_option maxHeartbeats 1000000 in
theorem impl_position_code__always.calls (k : Nat) (X : List Nat) (w0 : World) (A : Option Addr) (c : Nat) (m : Nat) (p : Int) (p2 : List Int) (r : Int)
    (hp : Pre X w0 [] [IntsAt A c m p2]) (H : impl_position_code__always.f k p p2 = some r) :
    Calls Try.prog 46 [.agg [.int .i64 p, .slice A m c].toArray, .func (.func 47) #[] #[]].toArray w0 (Ret fun v w => v = .int .i64 r ∧ Post X (fps []) w0 [] [] w) := by
  unfold impl_position_code__always.f at H
  refine enterM (n := 18) hp Try.func46 rfl rfl (Nat.le_of_ble_eq_true rfl) fun a w ht hm => ?_
  refine wp_seq ?_
  refine wpr ?_
  refine wpl_box rfl rfl ht hm rfl rfl rfl ?_
  intro b1 a ht w hm
  refine wpl rfl rfl ht (ev_assign ht rfl rfl) ?_
  intro a ht
  refine wpList_nil ?_
  refine then_normal ?_
  refine wp_seq ?_
  refine wp_block ?_
  refine wp_seq ?_
  refine wpr ?_
  refine wpl rfl rfl ht (ev_load_agg (xs := [.int .i64 p, .slice A m c]) ht rfl rfl ag_35 (hm.blk_all 0 rfl)) ?_
  intro a ht
  obtain ⟨t2, et2, H⟩ := bind_get H
  have hcall := impl_position_isShape.calls k _ _ A c m p p2 _ ((fun (hq : Ms _ _ _ ([] ++ [.blk b1 35 [.int .i64 p, .slice A m c]]) _ _) => hq.lend (φp := [IntsAt A c m p2]) (allRO_cons (hq.lendFact 0 rfl) (allRO_nil))) (hm.pick (own' := [] ++ [.blk b1 35 [.int .i64 p, .slice A m c]]) [0] rfl (by decide))) et2
  refine wpl_call _ rfl rfl ht rfl rfl rfl rfl can_39 hcall ?_
  clear hcall
  rintro _ w ⟨rfl, hpost⟩ a ht
  replace hm := (hm.pick (own' := [] ++ [.blk b1 35 [.int .i64 p, .slice A m c]]) [0] rfl (by decide)).backL hpost
  clear hpost
  refine wpl rfl rfl ht (ev_not ht rfl rfl) ?_
  intro a ht
  refine wpl rfl rfl ht (ev_move ht rfl rfl) ?_
  intro a ht
  by_cases h3 : t2 = true
  · replace H := ite_yes h3 H
    refine wpl_yes rfl ht rfl ((not_t h3)) ?_
    refine wpl rfl rfl ht (ev_move ht rfl rfl) ?_
    intro a ht
    refine wpl_yes rfl ht rfl ((not_t h3)) ?_
    obtain ⟨t4, et4, H⟩ := bind_get H
    have hcall := impl_always.calls _ _ _ ((fun (hq : Ms _ _ _ ([] ++ [.blk b1 35 [.int .i64 p, .slice A m c]]) _ _) => hq.lend (φp := []) (allRO_nil)) (hm.pick (own' := [] ++ [.blk b1 35 [.int .i64 p, .slice A m c]]) [0] rfl (by decide))) et4
    refine wpl_call _ rfl rfl ht rfl rfl rfl rfl can_47 hcall ?_
    clear hcall
    rintro _ w ⟨rfl, hpost⟩ a ht
    replace hm := (hm.pick (own' := [] ++ [.blk b1 35 [.int .i64 p, .slice A m c]]) [0] rfl (by decide)).backL hpost
    clear hpost
    refine wpl_yes rfl ht rfl ((not_t h3)) ?_
    refine wpl rfl rfl ht (ev_not ht rfl rfl) ?_
    intro a ht
    refine wpl rfl rfl ht (ev_pick_no ht rfl rfl (not_t h3) rfl) ?_
    intro a ht
    refine wpl rfl rfl ht (ev_assign ht rfl rfl) ?_
    intro a ht
    refine wpList_nil ?_
    refine then_normal ?_
    by_cases h5 : t4 = true
    · replace H := ite_yes h5 H
      refine wpc_no ht rfl (not_t h5) ?_
      refine wp_seq ?_
      refine wpr ?_
      refine wpl rfl rfl ht (ev_load_agg (xs := [.int .i64 p, .slice A m c]) ht rfl rfl ag_35 (hm.blk_all 0 rfl)) ?_
      intro a ht
      obtain ⟨t6, et6, H⟩ := bind_get H
      have hcall := impl_position_isPosition.calls k _ _ A c m p p2 _ ((fun (hq : Ms _ _ _ ([] ++ [.blk b1 35 [.int .i64 p, .slice A m c]]) _ _) => hq.lend (φp := [IntsAt A c m p2]) (allRO_cons (hq.lendFact 0 rfl) (allRO_nil))) (hm.pick (own' := [] ++ [.blk b1 35 [.int .i64 p, .slice A m c]]) [0] rfl (by decide))) et6
      refine wpl_call _ rfl rfl ht rfl rfl rfl rfl can_40 hcall ?_
      clear hcall
      rintro _ w ⟨rfl, hpost⟩ a ht
      replace hm := (hm.pick (own' := [] ++ [.blk b1 35 [.int .i64 p, .slice A m c]]) [0] rfl (by decide)).backL hpost
      clear hpost
      refine wpl rfl rfl ht (ev_not ht rfl rfl) ?_
      intro a ht
      refine wpl rfl rfl ht (ev_assign ht rfl rfl) ?_
      intro a ht
      refine wpList_nil ?_
      refine then_normal ?_
      by_cases h7 : t6 = true
      · replace H := ite_yes h7 H
        refine wpc_no ht rfl (not_t h7) ?_
        refine wp_skip ?_
        refine blk_normal ?_
        refine then_normal ?_
        refine wp_seq ?_
        refine wpr ?_
        refine wpl rfl rfl ht (ev_assign ht rfl rfl) ?_
        intro a ht
        refine wpList_nil ?_
        refine then_normal ?_
        refine wp_ret ?_
        have hres := ht.res (P := Try.prog) (w := w) (rs := [.tmp 4]) (vs := [.int .i64 0]) (.tmp rfl .nil)
        obtain rfl := Option.some.inj H
        exact leave ht rfl hres ⟨rfl, ((hm.pick [] rfl (by decide)).pickφ [] rfl).post fun _ h => h⟩
      · replace H := ite_no h7 H
        refine wpc_yes ht rfl (not_f (Bool.eq_false_iff.mpr h7)) ?_
        refine wp_seq ?_
        refine wpr ?_
        refine wpl rfl rfl ht (ev_assign ht rfl rfl) ?_
        intro a ht
        refine wpList_nil ?_
        refine then_normal ?_
        refine wp_ret ?_
        refine blk_ret ?_
        refine then_ret ?_
        have hres := ht.res (P := Try.prog) (w := w) (rs := [.tmp 4]) (vs := [.int .i64 1]) (.tmp rfl .nil)
        obtain rfl := Option.some.inj H
        exact leave ht rfl hres ⟨rfl, ((hm.pick [] rfl (by decide)).pickφ [] rfl).post fun _ h => h⟩
    · replace H := ite_no h5 H
      refine wpc_yes ht rfl (not_f (Bool.eq_false_iff.mpr h5)) ?_
      refine wp_seq ?_
      refine wpr ?_
      refine wpl rfl rfl ht (ev_assign ht rfl rfl) ?_
      intro a ht
      refine wpList_nil ?_
      refine then_normal ?_
      refine wp_ret ?_
      refine blk_ret ?_
      refine then_ret ?_
      have hres := ht.res (P := Try.prog) (w := w) (rs := [.tmp 4]) (vs := [.int .i64 2]) (.tmp rfl .nil)
      obtain rfl := Option.some.inj H
      exact leave ht rfl hres ⟨rfl, ((hm.pick [] rfl (by decide)).pickφ [] rfl).post fun _ h => h⟩
  · replace H := ite_no h3 H
    refine wpl_no rfl rfl ht rfl (by rw [(not_f (Bool.eq_false_iff.mpr h3))]; decide) ?_
    intro a ht
    refine wpl_no rfl rfl ht rfl (by rw [(not_f (Bool.eq_false_iff.mpr h3))]; decide) ?_
    intro a ht
    refine wpl_no rfl rfl ht rfl (by rw [(not_f (Bool.eq_false_iff.mpr h3))]; decide) ?_
    intro a ht
    refine wpl rfl rfl ht (ev_pick_yes ht rfl rfl (not_f (Bool.eq_false_iff.mpr h3)) rfl) ?_
    intro a ht
    refine wpl rfl rfl ht (ev_assign ht rfl rfl) ?_
    intro a ht
    refine wpList_nil ?_
    refine then_normal ?_
    refine wpc_yes ht rfl rfl ?_
    refine wp_seq ?_
    refine wpr ?_
    refine wpl rfl rfl ht (ev_assign ht rfl rfl) ?_
    intro a ht
    refine wpList_nil ?_
    refine then_normal ?_
    refine wp_ret ?_
    refine blk_ret ?_
    refine then_ret ?_
    have hres := ht.res (P := Try.prog) (w := w) (rs := [.tmp 4]) (vs := [.int .i64 2]) (.tmp rfl .nil)
    obtain rfl := Option.some.inj H
    exact leave ht rfl hres ⟨rfl, ((hm.pick [] rfl (by decide)).pickφ [] rfl).post fun _ h => h⟩

/-! ### slices_Clone_int64_int64: function 67 (slices.Clone[[]int64,int64]) -/
def slices_Clone_int64_int64.f (s : List Int) : Option (List Int) := (concat ([] : List Int) s).bind fun l6 => some l6
set_option maxRecDepth 100000 in
set_option maxHeartbeats 1000000 in
theorem slices_Clone_int64_int64.calls (X : List Nat) (w0 : World) (A : Option Addr) (c : Nat) (m : Nat) (s : List Int) (r : List Int)
    (hp : Pre X w0 [] [IntsAt A c m s]) (H : slices_Clone_int64_int64.f s = some r) :
    Calls Try.prog 67 [.slice A m c].toArray w0 (Ret fun v w => ∃ (A_0 : Option Addr) (c_0 : Nat) (n_0 : Nat), v = .slice A_0 n_0 c_0 ∧ Post X (fps []) w0 [.vec A_0 c_0 2 1 n_0 (ints r)] [] w) := by
  unfold slices_Clone_int64_int64.f at H
  refine enterM (n := 8) hp Try.func67 rfl rfl (Nat.le_of_ble_eq_true rfl) fun a w ht hm => ?_
  refine wp_seq ?_
  refine wpr ?_
  refine wpl rfl rfl ht (ev_assign ht rfl rfl) ?_
  intro a ht
  refine wpList_nil ?_
  refine then_normal ?_
  refine wp_seq ?_
  refine wp_seq ?_
  refine wpr ?_
  refine wpl rfl rfl ht (ev_move ht rfl rfl) ?_
  intro a ht
  cases A with
  | none =>
    have hnil : s = [] := IntsAt.none (hm.fact (φ := IntsAt none c m s) 0 rfl)
    refine wpl rfl rfl ht (ev_eq_nil_none ht rfl rfl rfl und_22) ?_
    intro a ht
    refine wpList_nil ?_
    refine then_normal ?_
    refine wpc_yes ht rfl rfl ?_
    refine wp_seq ?_
    refine wpr ?_
    refine wpl rfl rfl ht (ev_assign ht rfl rfl) ?_
    intro a ht
    refine wpList_nil ?_
    refine then_normal ?_
    refine wp_ret ?_
    refine then_ret ?_
    have hres := ht.res (P := Try.prog) (w := w) (rs := [.tmp 2]) (vs := [.slice none 0 0]) (.tmp rfl .nil)
    replace hm : Ms _ _ _ (.vec none 0 2 1 0 (ints ([] : List Int)) :: _) _ w := hm.nilVec none 2 1
    obtain rfl : r = [] := by rw [hnil] at H; exact clone_nil H
    exact leave ht rfl hres ⟨none, 0, 0, rfl, ((hm.pick [0] rfl (by decide)).pickφ [] rfl).post fun _ h => h⟩
  | some A =>
    refine wpl rfl rfl ht (ev_eq_nil_some ht rfl rfl rfl und_22) ?_
    intro a ht
    refine wpList_nil ?_
    refine then_normal ?_
    refine wpc_no ht rfl rfl ?_
    refine wp_skip ?_
    refine then_normal ?_
    refine wp_seq ?_
    refine wpr ?_
    refine wpl_build_ints (l := ([] : List Int)) rfl rfl ht hm rfl und_22 zo_2 sz1_2 (by decide) rfl rfl rfl ?_
    intro A2 a ht w hm
    refine wpl rfl rfl ht (ev_move ht rfl rfl) ?_
    intro a ht
    obtain ⟨l6, el6, H⟩ := bind_get H
    refine wpl_concat (r := l6) 0 rfl rfl ht hm rfl ap_22 rfl rfl rfl (hm.fact (φ := IntsAt (some A) c m s) 0 rfl) el6 ?_
    intro A3 c4 m5 a ht w hm
    refine wpl rfl rfl ht (ev_assign ht rfl rfl) ?_
    intro a ht
    refine wpList_nil ?_
    refine then_normal ?_
    refine wp_ret ?_
    have hres := ht.res (P := Try.prog) (w := w) (rs := [.tmp 2]) (vs := [.slice A3 m5 c4]) (.tmp rfl .nil)
    obtain rfl := Option.some.inj H
    exact leave ht rfl hres ⟨A3, c4, m5, rfl, ((hm.pick [0] rfl (by decide)).pickφ [] rfl).post fun _ h => h⟩

/-! ### impl_orders: function 68 (loop.example/g01362/impl.orders) -/
mutual
def impl_orders.l0 : Nat → Int → List Int → List (List Int) → Int → Option (List (List Int))
  | 0, _, _, _, _ => none
  | q5 + 1, n_, list, ls0_4, xs0_6 => if xs0_6 < n_ then ((slices_Contains_int64_int64.f q5 list xs0_6).bind fun t7 => if t7 = true then (impl_orders.l0 q5 n_ list ls0_4 (w64 (xs0_6 + 1))) else ((slices_Clone_int64_int64.f list).bind fun t9 => (push t9 xs0_6).bind fun l17 => (impl_orders.f q5 n_ l17).bind fun t18 => (concatR ls0_4 t18).bind fun l26 => impl_orders.l0 q5 n_ list l26 (w64 (xs0_6 + 1)))) else (some ls0_4)
def impl_orders.f : Nat → Int → List Int → Option (List (List Int))
  | 0, _, _ => none
  | k + 1, n_, list => (impl_size_int64.f list).bind fun t1 => if t1 = n_ then (some ([list])) else (impl_orders.l0 k n_ list ([] : List (List Int)) 0)
end
set_option maxRecDepth 100000 in
set_option maxHeartbeats 1000000 in
theorem impl_orders.calls (k : Nat) (X : List Nat) (w0 : World) (A : Option Addr) (c : Nat) (m : Nat) (n_ : Int) (list : List Int) (r : List (List Int))
    (hp : Pre X w0 [] [IntsAt A c m list]) (H : impl_orders.f k n_ list = some r) :
    Calls Try.prog 68 [.int .i64 n_, .slice A m c].toArray w0 (Ret fun v w => ∃ (A_0 : Option Addr) (c_0 : Nat) (n_0 : Nat) (vs_0 : List Value), v = .slice A_0 n_0 c_0 ∧ Post X (fps []) w0 [.vec A_0 c_0 22 1 n_0 vs_0] [AllInts vs_0 r] w) := by
  induction k using Nat.strongRecOn generalizing X w0 A c m n_ list r with
  | _ k ih =>
  cases k with
  | zero => cases H
  | succ k =>
  rw [impl_orders.f] at H
  refine enterM (n := 33) hp Try.func68 rfl rfl (Nat.le_of_ble_eq_true rfl) fun a w ht hm => ?_
  induction k using Nat.strongRecOn with
  | _ k ih =>
  refine wp_seq ?_
  refine wpr ?_
  refine wpl rfl rfl ht (ev_assign ht rfl rfl) ?_
  intro a ht
  refine wpList_nil ?_
  refine then_normal ?_
  refine wp_seq ?_
  refine wp_seq ?_
  refine wpr ?_
  refine wpl rfl rfl ht (ev_move ht rfl rfl) ?_
  intro a ht
  obtain ⟨t1, et1, H⟩ := bind_get H
  have hcall := impl_size_int64.calls _ _ A c m list _ ((fun (hq : Ms _ _ _ ([] ++ []) _ _) => hq.lend (φp := [IntsAt A c m list]) (allRO_cons (hq.lendFact 0 rfl) (allRO_nil))) (hm.pick (own' := [] ++ []) [] rfl (by decide))) et1
  refine wpl_call _ rfl rfl ht rfl rfl rfl rfl can_59 hcall ?_
  clear hcall
  rintro _ w ⟨rfl, hpost⟩ a ht
  replace hm := (hm.pick (own' := [] ++ []) [] rfl (by decide)).backL hpost
  clear hpost
  refine wpl rfl rfl ht (ev_move ht rfl rfl) ?_
  intro a ht
  refine wpl rfl rfl ht (ev_cmp ht rfl rfl rfl rfl) ?_
  intro a ht
  refine wpList_nil ?_
  refine then_normal ?_
  by_cases h2 : t1 = n_
  · replace H := ite_yes h2 H
    refine wpc_yes ht rfl (decide_eq_true h2) ?_
    refine wp_seq ?_
    refine wpr ?_
    refine wpl rfl rfl ht (ev_move ht rfl rfl) ?_
    intro a ht
    replace hm : Ms _ _ _ _ (AllInts ([.slice A m c]) ([list]) :: _) w := hm.addφ (allInts_cons (hm.ro 0 rfl) (allInts_nil))
    refine wpl_buildSlice (vs := [.slice A m c]) rfl rfl ht hm rfl und_52 zo_22 sz1_22 (by decide) rfl rfl rfl ?_
    intro A3 a ht w hm
    refine wpl rfl rfl ht (ev_assign ht rfl rfl) ?_
    intro a ht
    refine wpList_nil ?_
    refine then_normal ?_
    refine wp_ret ?_
    refine then_ret ?_
    have hres := ht.res (P := Try.prog) (w := w) (rs := [.tmp 4]) (vs := [.slice A3 1 1]) (.tmp rfl .nil)
    obtain rfl := Option.some.inj H
    exact leave ht rfl hres ⟨A3, 1, 1, [.slice A m c], rfl, ((hm.pick [0] rfl (by decide)).pickφ [0] rfl).post fun _ h => h⟩
  · replace H := ite_no h2 H
    refine wpc_no ht rfl (decide_eq_false h2) ?_
    refine wp_skip ?_
    refine then_normal ?_
    refine wp_seq ?_
    refine wpr ?_
    replace hm : Ms _ _ _ _ (AllInts ([]) ([] : List (List Int)) :: _) w := hm.addφ (allInts_nil)
    refine wpl_buildSlice (vs := []) rfl rfl ht hm rfl und_52 zo_22 sz1_22 (by decide) rfl rfl rfl ?_
    intro A4 a ht w hm
    refine wpl rfl rfl ht (ev_assign ht rfl rfl) ?_
    intro a ht
    refine wpList_nil ?_
    refine then_normal ?_
    refine wp_seq ?_
    refine wp_seq ?_
    refine wpr ?_
    refine wpl rfl rfl ht (ev_move ht rfl rfl) ?_
    intro a ht
    refine wpl rfl rfl ht (ev_move ht rfl rfl) ?_
    intro a ht
    refine wpList_nil ?_
    refine then_normal ?_
    refine wp_block ?_
    refine wpLoop (fun q a w => ∃ (ls0_4 : List (List Int)) (xs0_6 : Int) (As0_1 : Option Addr) (cs0_2 : Nat) (ms0_3 : Nat) (vss0_5 : List Value), impl_orders.l0 q n_ list ls0_4 xs0_6 = some r ∧ q ≤ k ∧ Tm 33 [(0, .int .i64 n_), (1, .slice A m c), (4, .slice none 0 0), (5, .slice As0_1 ms0_3 cs0_2), (14, .int .i64 n_), (15, .int .i64 xs0_6)] a ∧ Ms X (fps []) w0 [.vec As0_1 cs0_2 22 1 ms0_3 vss0_5] [IntsAt A c m list, AllInts vss0_5 ls0_4] w) (k0 := k) ⟨([] : List (List Int)), 0, A4, 0, 0, ([]), H, Nat.le_refl _, ht.sub ⟨rfl, rfl, rfl, rfl, rfl, rfl, trivial⟩, (hm.pick [0] rfl (by decide)).pickφ [1, 0] rfl⟩ ?_
    clear H ht hm
    intro q5 a w hJ
    obtain ⟨ls0_4, xs0_6, As0_1, cs0_2, ms0_3, vss0_5, H, hqq5, ht, hm⟩ := hJ
    cases q5 with
    | zero => cases H
    | succ q5 =>
    rw [impl_orders.l0] at H
    refine wp_seq ?_
    refine wpr ?_
    refine wpl rfl rfl ht (ev_cmp ht rfl rfl rfl rfl) ?_
    intro a ht
    refine wpList_nil ?_
    refine then_normal ?_
    refine wp_seq ?_
    by_cases h6 : xs0_6 < n_
    · replace H := ite_yes h6 H
      refine wpc_yes ht rfl (decide_eq_true h6) ?_
      refine wp_skip ?_
      refine then_normal ?_
      refine wp_seq ?_
      refine wp_block ?_
      refine wp_seq ?_
      refine wpr ?_
      refine wpl rfl rfl ht (ev_move ht rfl rfl) ?_
      intro a ht
      refine wpl rfl rfl ht (ev_assign ht rfl rfl) ?_
      intro a ht
      refine wpList_nil ?_
      refine then_normal ?_
      refine wp_seq ?_
      refine wpr ?_
      refine wpl rfl rfl ht (ev_move ht rfl rfl) ?_
      intro a ht
      refine wpl rfl rfl ht (ev_move ht rfl rfl) ?_
      intro a ht
      obtain ⟨t7, et7, H⟩ := bind_get H
      have hcall := slices_Contains_int64_int64.calls q5 _ _ A c m list xs0_6 _ ((fun (hq : Ms _ _ _ ([] ++ [.vec As0_1 cs0_2 22 1 ms0_3 vss0_5]) _ _) => hq.lend (φp := [IntsAt A c m list]) (allRO_cons (hq.lendFact 0 rfl) (allRO_nil))) (hm.pick (own' := [] ++ [.vec As0_1 cs0_2 22 1 ms0_3 vss0_5]) [0] rfl (by decide))) et7
      refine wpl_call _ rfl rfl ht rfl rfl rfl rfl can_74 hcall ?_
      clear hcall
      rintro _ w ⟨rfl, hpost⟩ a ht
      replace hm := (hm.pick (own' := [] ++ [.vec As0_1 cs0_2 22 1 ms0_3 vss0_5]) [0] rfl (by decide)).backL hpost
      clear hpost
      refine wpl rfl rfl ht (ev_not ht rfl rfl) ?_
      intro a ht
      refine wpList_nil ?_
      refine then_normal ?_
      by_cases h8 : t7 = true
      · replace H := ite_yes h8 H
        refine wpc_no ht rfl (not_t h8) ?_
        refine wp_skip ?_
        refine blk_normal ?_
        refine then_normal ?_
        refine wpr ?_
        refine wpl rfl rfl ht (ev_arith ht rfl rfl rfl rfl) ?_
        intro a ht
        refine wpl rfl rfl ht (ev_move ht rfl rfl) ?_
        intro a ht
        refine wpList_nil ?_
        exact then_normal ⟨q5, by omega, ls0_4, (w64 (xs0_6 + 1)), As0_1, cs0_2, ms0_3, vss0_5, H, by omega, ht.sub ⟨rfl, rfl, rfl, rfl, rfl, rfl, trivial⟩, (hm.pick [0] rfl (by decide)).pickφ [0, 1] rfl⟩
      · replace H := ite_no h8 H
        refine wpc_yes ht rfl (not_f (Bool.eq_false_iff.mpr h8)) ?_
        refine wpr ?_
        refine wpl rfl rfl ht (ev_move ht rfl rfl) ?_
        intro a ht
        refine wpl rfl rfl ht (ev_move ht rfl rfl) ?_
        intro a ht
        refine wpl rfl rfl ht (ev_move ht rfl rfl) ?_
        intro a ht
        obtain ⟨t9, et9, H⟩ := bind_get H
        have hcall := slices_Clone_int64_int64.calls _ _ A c m list _ ((fun (hq : Ms _ _ _ ([] ++ [.vec As0_1 cs0_2 22 1 ms0_3 vss0_5]) _ _) => hq.lend (φp := [IntsAt A c m list]) (allRO_cons (hq.lendFact 0 rfl) (allRO_nil))) (hm.pick (own' := [] ++ [.vec As0_1 cs0_2 22 1 ms0_3 vss0_5]) [0] rfl (by decide))) et9
        refine wpl_call _ rfl rfl ht rfl rfl rfl rfl can_67 hcall ?_
        clear hcall
        rintro _ w ⟨A10, c11, m12, rfl, hpost⟩ a ht
        replace hm := (hm.pick (own' := [] ++ [.vec As0_1 cs0_2 22 1 ms0_3 vss0_5]) [0] rfl (by decide)).backL hpost
        clear hpost
        refine wpl rfl rfl ht (ev_move ht rfl rfl) ?_
        intro a ht
        refine wpl_build_ints (l := [xs0_6]) rfl rfl ht hm rfl und_22 zo_2 sz1_2 (by decide) rfl rfl rfl ?_
        intro A13 a ht w hm
        obtain ⟨l17, el17, H⟩ := bind_get H
        refine wpl_push (r := l17) 1 0 rfl rfl ht hm rfl ap_22 rfl rfl rfl rfl el17 ?_
        intro A14 c15 m16 a ht w hm
        replace hm : Ms _ _ _ _ (IntsAt A14 c15 m16 l17 :: _) w := hm.shutVec 1 rfl
        obtain ⟨t18, et18, H⟩ := bind_get H
        have hcall := ih q5 (by omega) _ _ A14 c15 m16 n_ l17 _ ((hm.pick (own' := [] ++ [.vec A13 1 2 1 1 (ints ([xs0_6])), .vec As0_1 cs0_2 22 1 ms0_3 vss0_5]) [0, 1] rfl (by decide)).give (passed := []) (rest := [.vec A13 1 2 1 1 (ints ([xs0_6])), .vec As0_1 cs0_2 22 1 ms0_3 vss0_5]) (φp := [IntsAt A14 c15 m16 l17]) [0] rfl) et18
        refine wpl_call _ rfl rfl ht rfl rfl rfl rfl can_68 hcall ?_
        clear hcall
        rintro _ w ⟨A19, c20, m21, vs22, rfl, hpost⟩ a ht
        replace hm := (hm.pick (own' := [] ++ [.vec A13 1 2 1 1 (ints ([xs0_6])), .vec As0_1 cs0_2 22 1 ms0_3 vss0_5]) [0, 1] rfl (by decide)).back hpost
        clear hpost
        obtain ⟨l26, el26, H⟩ := bind_get H
        replace hm : Ms _ _ _ _ (AllInts (vss0_5 ++ vs22) l26 :: _) w := hm.addφ (allInts_append el26 (hm.ro 3 rfl) (hm.ro 0 rfl))
        refine wpl_concat_rows (r := l26) 2 0 4 1 rfl rfl ht hm rfl ap_52 rfl rfl rfl rfl rfl rfl el26 ?_
        intro A23 c24 m25 a ht w hm
        refine wpl rfl rfl ht (ev_assign ht rfl rfl) ?_
        intro a ht
        refine wpList_nil ?_
        refine blk_normal ?_
        refine then_normal ?_
        refine wpr ?_
        refine wpl rfl rfl ht (ev_arith ht rfl rfl rfl rfl) ?_
        intro a ht
        refine wpl rfl rfl ht (ev_move ht rfl rfl) ?_
        intro a ht
        refine wpList_nil ?_
        exact then_normal ⟨q5, by omega, l26, (w64 (xs0_6 + 1)), A23, c24, m25, (vss0_5 ++ vs22), H, by omega, ht.sub ⟨rfl, rfl, rfl, rfl, rfl, rfl, trivial⟩, (hm.pick [2] rfl (by decide)).pickφ [3, 0] rfl⟩
    · replace H := ite_no h6 H
      refine wpc_no ht rfl (decide_eq_false h6) ?_
      refine wp_exit ?_
      refine then_exit ?_
      refine then_exit ?_
      refine blk_hit ?_
      refine then_normal ?_
      refine wp_seq ?_
      refine wpr ?_
      refine wpl rfl rfl ht (ev_move ht rfl rfl) ?_
      intro a ht
      refine wpl rfl rfl ht (ev_assign ht rfl rfl) ?_
      intro a ht
      refine wpList_nil ?_
      refine then_normal ?_
      refine wp_ret ?_
      have hres := ht.res (P := Try.prog) (w := w) (rs := [.tmp 4]) (vs := [.slice As0_1 ms0_3 cs0_2]) (.tmp rfl .nil)
      obtain rfl := Option.some.inj H
      exact leave ht rfl hres ⟨As0_1, cs0_2, ms0_3, vss0_5, rfl, ((hm.pick [0] rfl (by decide)).pickφ [1] rfl).post fun _ h => h⟩

end Go.Proofs.Ytfbdcidedjocdaa.G
