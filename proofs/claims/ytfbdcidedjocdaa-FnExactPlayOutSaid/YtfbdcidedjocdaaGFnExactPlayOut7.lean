/- What each Go function computes, as a Lean function, and the proof that it does: written by a program of this session (wip/gen), part 7. -/
import Derived.Test.YtfbdcidedjocdaaGFnExactPlayOut6
namespace Go.Proofs.Ytfbdcidedjocdaa.G
open Go Go.RowKit Go.Proofs.Ytfbdcidedjocdaa.K
set_option linter.unusedVariables false
set_option linter.unusedSimpArgs false

/-! ### impl_position_isPosition: function 40 ((loop.example/g01362/impl.position).isPosition) -/
def impl_position_isPosition.l0 : Nat → List (List Int) → Int → Int → Option (Bool)
  | 0, _, _, _ => none
  | q19 + 1, t13, t18, xs0_1 => if xs0_1 < t18 then ((slices_ContainsFunc_int64_int64__position_isPosition_1.f q19 t13 xs0_1).bind fun t22 => if t22 = true then (impl_position_isPosition.l0 q19 t13 t18 (w64 (xs0_1 + 1))) else (some true)) else (some (decide ((t13.length : Int) = 0)))
def impl_position_isPosition.f (k : Nat) (p : Int) (p2 : List Int) : Option (Bool) := (impl_position_mover.f k p p2).bind fun t2 => (impl_in.f t2 0 1).bind fun t3 => if t3 = true then ((impl_position_mover.f k p p2).bind fun t5 => (impl_position_triangles.f k p p2 t5).bind fun t6 => if (t6.length : Int) > 0 then (some false) else ((impl_position_mover.f k p p2).bind fun t12 => (impl_position_triangles.f k p p2 (w64 (1 - t12))).bind fun t13 => (impl_size_int64.f p2).bind fun t18 => impl_position_isPosition.l0 k t13 t18 0)) else (some false)
set_option maxRecDepth 100000 in
set_option maxHeartbeats 1000000 in
theorem impl_position_isPosition.calls (k : Nat) (X : List Nat) (w0 : World) (A : Option Addr) (c : Nat) (m : Nat) (p : Int) (p2 : List Int) (r : Bool)
    (hp : Pre X w0 [] [IntsAt A c m p2]) (H : impl_position_isPosition.f k p p2 = some r) :
    Calls Try.prog 40 [.agg [.int .i64 p, .slice A m c].toArray].toArray w0 (Ret fun v w => v = .bool r ∧ Post X (fps []) w0 [] [] w) := by
  unfold impl_position_isPosition.f at H
  refine enterM (n := 36) hp Try.func40 rfl rfl (Nat.le_of_ble_eq_true rfl) fun a w ht hm => ?_
  refine wp_seq ?_
  refine wpr ?_
  refine wpl_box rfl rfl ht hm rfl rfl rfl ?_
  intro b1 a ht w hm
  refine wpl rfl rfl ht (ev_assign ht rfl rfl) ?_
  intro a ht
  refine wpList_nil ?_
  refine then_normal ?_
  refine wp_seq ?_
  refine wp_seq ?_
  refine wph_begin (fun w => Ms X (fps []) w0 [.blk b1 35 [.int .i64 p, .slice A m c]] [IntsAt A c m p2] w) mixed ?_
  replace hm := hm.drew
  have hS : Ms X (fps []) w0 [.blk b1 35 [.int .i64 p, .slice A m c]] [IntsAt A c m p2] w.drew := (hm.pick [0] rfl (by decide)).pickφ [0] rfl
  generalize w.drew = w at hm hS ⊢
  refine wph_take (i := 0) rfl (by kernel_rfl) (by kernel_rfl) (by kernel_rfl) (fun _ _ _ h => h) rfl ht hS (wanted_plain rfl) (fun w hm => ev_load_agg (xs := [.int .i64 p, .slice A m c]) ht rfl rfl ag_35 (hm.blk_all 0 rfl)) ?_
  intro a ht
  refine wph_one (i := 1) (by kernel_rfl) (wph_step rfl ?_)
  obtain ⟨t2, et2, H⟩ := bind_get H
  have hcall := impl_position_mover.calls k _ _ A c m p p2 _ ((fun (hq : Ms _ _ _ ([] ++ [.blk b1 35 [.int .i64 p, .slice A m c]]) _ _) => hq.lend (φp := [IntsAt A c m p2]) (allRO_cons (hq.lendFact 0 rfl) (allRO_nil))) (hm.pick (own' := [] ++ [.blk b1 35 [.int .i64 p, .slice A m c]]) [0] rfl (by decide))) et2
  refine wpl_call _ rfl rfl ht rfl rfl rfl rfl can_52 hcall ?_
  clear hcall
  rintro _ w ⟨rfl, hpost⟩ a ht
  replace hm := (hm.pick (own' := [] ++ [.blk b1 35 [.int .i64 p, .slice A m c]]) [0] rfl (by decide)).backL hpost
  clear hpost
  have hS : Ms X (fps []) w0 [.blk b1 35 [.int .i64 p, .slice A m c]] [IntsAt A c m p2] w := (hm.pick [0] rfl (by decide)).pickφ [0] rfl
  refine wpList_nil (qn ⟨hS, ?_⟩)
  refine wph_one (i := 2) (by kernel_rfl) (wph_step rfl ?_)
  obtain ⟨t3, et3, H⟩ := bind_get H
  have hcall := impl_in.calls _ _ t2 0 1 _ ((fun (hq : Ms _ _ _ ([] ++ [.blk b1 35 [.int .i64 p, .slice A m c]]) _ _) => hq.lend (φp := []) (allRO_nil)) (hm.pick (own' := [] ++ [.blk b1 35 [.int .i64 p, .slice A m c]]) [0] rfl (by decide))) et3
  refine wpl_call _ rfl rfl ht rfl rfl rfl rfl can_58 hcall ?_
  clear hcall
  rintro _ w ⟨rfl, hpost⟩ a ht
  replace hm := (hm.pick (own' := [] ++ [.blk b1 35 [.int .i64 p, .slice A m c]]) [0] rfl (by decide)).backL hpost
  clear hpost
  have hS : Ms X (fps []) w0 [.blk b1 35 [.int .i64 p, .slice A m c]] [IntsAt A c m p2] w := (hm.pick [0] rfl (by decide)).pickφ [0] rfl
  refine wpList_nil (qn ⟨hS, ?_⟩)
  refine wph_take (i := 3) rfl (by kernel_rfl) (by kernel_rfl) (by kernel_rfl) (fun _ _ _ h => h) rfl ht hS (wanted_plain rfl) (fun w hm => ev_not ht rfl rfl) ?_
  intro a ht
  refine wph_take (i := 4) rfl (by kernel_rfl) (by kernel_rfl) (by kernel_rfl) (fun _ _ _ h => h) rfl ht hS (wanted_plain rfl) (fun w hm => ev_move ht rfl rfl) ?_
  intro a ht
  by_cases h4 : t3 = true
  · replace H := ite_yes h4 H
    refine wph_take (i := 5) rfl (by kernel_rfl) (by kernel_rfl) (by kernel_rfl) (fun _ _ _ h => h) rfl ht hS (wanted_yes rfl ht rfl ((not_t h4))) (fun w hm => ev_load_agg (xs := [.int .i64 p, .slice A m c]) ht rfl rfl ag_35 (hm.blk_all 0 rfl)) ?_
    intro a ht
    refine wph_take (i := 6) rfl (by kernel_rfl) (by kernel_rfl) (by kernel_rfl) (fun _ _ _ h => h) rfl ht hS (wanted_yes rfl ht rfl ((not_t h4))) (fun w hm => ev_load_agg (xs := [.int .i64 p, .slice A m c]) ht rfl rfl ag_35 (hm.blk_all 0 rfl)) ?_
    intro a ht
    refine wph_one (i := 7) (by kernel_rfl) (wph_step rfl ?_)
    refine wpl_yes rfl ht rfl ((not_t h4)) ?_
    obtain ⟨t5, et5, H⟩ := bind_get H
    have hcall := impl_position_mover.calls k _ _ A c m p p2 _ ((fun (hq : Ms _ _ _ ([] ++ [.blk b1 35 [.int .i64 p, .slice A m c]]) _ _) => hq.lend (φp := [IntsAt A c m p2]) (allRO_cons (hq.lendFact 0 rfl) (allRO_nil))) (hm.pick (own' := [] ++ [.blk b1 35 [.int .i64 p, .slice A m c]]) [0] rfl (by decide))) et5
    refine wpl_call _ rfl rfl ht rfl rfl rfl rfl can_52 hcall ?_
    clear hcall
    rintro _ w ⟨rfl, hpost⟩ a ht
    replace hm := (hm.pick (own' := [] ++ [.blk b1 35 [.int .i64 p, .slice A m c]]) [0] rfl (by decide)).backL hpost
    clear hpost
    have hS : Ms X (fps []) w0 [.blk b1 35 [.int .i64 p, .slice A m c]] [IntsAt A c m p2] w := (hm.pick [0] rfl (by decide)).pickφ [0] rfl
    refine wpList_nil (qn ⟨hS, ?_⟩)
    refine wph_one (i := 8) (by kernel_rfl) (wph_step rfl ?_)
    refine wpl_yes rfl ht rfl ((not_t h4)) ?_
    obtain ⟨t6, et6, H⟩ := bind_get H
    have hcall := impl_position_triangles.calls k _ _ A c m p p2 t5 _ ((hm.pick (own' := [] ++ [.blk b1 35 [.int .i64 p, .slice A m c]]) [0] rfl (by decide)).give (passed := []) (rest := [.blk b1 35 [.int .i64 p, .slice A m c]]) (φp := [IntsAt A c m p2]) [0] rfl) et6
    refine wpl_call _ rfl rfl ht rfl rfl rfl rfl can_62 hcall ?_
    clear hcall
    rintro _ w ⟨A7, c8, m9, vs10, rfl, hpost⟩ a ht
    replace hm := (hm.pick (own' := [] ++ [.blk b1 35 [.int .i64 p, .slice A m c]]) [0] rfl (by decide)).back hpost
    clear hpost
    have hS : Ms X (fps []) w0 [.blk b1 35 [.int .i64 p, .slice A m c]] [IntsAt A c m p2] w := (hm.pick [1] rfl (by decide)).pickφ [1] rfl
    refine wpList_nil (qn ⟨hS, ?_⟩)
    refine wph_one (i := 9) (by kernel_rfl) (wph_step rfl ?_)
    refine wpl_yes rfl ht rfl ((not_t h4)) ?_
    refine wpl rfl rfl ht (ev_len_rows ht rfl rfl und_52 (hm.rowsOf 0 0 rfl rfl)) ?_
    intro a ht
    have hS : Ms X (fps []) w0 [.blk b1 35 [.int .i64 p, .slice A m c]] [IntsAt A c m p2] w := (hm.pick [1] rfl (by decide)).pickφ [1] rfl
    refine wpList_nil (qn ⟨hS, ?_⟩)
    refine wph_take (i := 10) rfl (by kernel_rfl) (by kernel_rfl) (by kernel_rfl) (fun _ _ _ h => h) rfl ht hS (wanted_yes rfl ht rfl ((not_t h4))) (fun w hm => ev_cmp ht rfl rfl rfl rfl) ?_
    intro a ht
    refine wph_take (i := 11) rfl (by kernel_rfl) (by kernel_rfl) (by kernel_rfl) (fun _ _ _ h => h) rfl ht hS (wanted_plain rfl) (fun w hm => ev_pick_no ht rfl rfl (not_t h4) rfl) ?_
    intro a ht
    refine wph_done (by kernel_rfl) ?_
    refine then_normal ?_
    by_cases h11 : (t6.length : Int) > 0
    · replace H := ite_yes h11 H
      refine wpc_yes ht rfl (decide_eq_true h11) ?_
      refine wp_seq ?_
      refine wpr ?_
      refine wpl rfl rfl ht (ev_assign ht rfl rfl) ?_
      intro a ht
      refine wpList_nil ?_
      refine then_normal ?_
      refine wp_ret ?_
      refine then_ret ?_
      have hres := ht.res (P := Try.prog) (w := w) (rs := [.tmp 2]) (vs := [.bool false]) (.tmp rfl .nil)
      obtain rfl := Option.some.inj H
      exact leave ht rfl hres ⟨rfl, ((hm.pick [] rfl (by decide)).pickφ [] rfl).post fun _ h => h⟩
    · replace H := ite_no h11 H
      refine wpc_no ht rfl (decide_eq_false h11) ?_
      refine wp_skip ?_
      refine then_normal ?_
      refine wp_seq ?_
      refine wph_begin (fun w => Ms X (fps []) w0 [.vec A7 c8 22 1 m9 vs10, .blk b1 35 [.int .i64 p, .slice A m c]] [AllInts vs10 t6, IntsAt A c m p2] w) mixed ?_
      replace hm := hm.drew
      have hS : Ms X (fps []) w0 [.vec A7 c8 22 1 m9 vs10, .blk b1 35 [.int .i64 p, .slice A m c]] [AllInts vs10 t6, IntsAt A c m p2] w.drew := (hm.pick [0, 1] rfl (by decide)).pickφ [0, 1] rfl
      generalize w.drew = w at hm hS ⊢
      refine wph_take (i := 0) rfl (by kernel_rfl) (by kernel_rfl) (by kernel_rfl) (fun _ _ _ h => h) rfl ht hS (wanted_plain rfl) (fun w hm => ev_load_agg (xs := [.int .i64 p, .slice A m c]) ht rfl rfl ag_35 (hm.blk_all 1 rfl)) ?_
      intro a ht
      refine wph_take (i := 1) rfl (by kernel_rfl) (by kernel_rfl) (by kernel_rfl) (fun _ _ _ h => h) rfl ht hS (wanted_plain rfl) (fun w hm => ev_load_agg (xs := [.int .i64 p, .slice A m c]) ht rfl rfl ag_35 (hm.blk_all 1 rfl)) ?_
      intro a ht
      refine wph_one (i := 2) (by kernel_rfl) (wph_step rfl ?_)
      obtain ⟨t12, et12, H⟩ := bind_get H
      have hcall := impl_position_mover.calls k _ _ A c m p p2 _ ((fun (hq : Ms _ _ _ ([] ++ [.vec A7 c8 22 1 m9 vs10, .blk b1 35 [.int .i64 p, .slice A m c]]) _ _) => hq.lend (φp := [IntsAt A c m p2]) (allRO_cons (hq.lendFact 1 rfl) (allRO_nil))) (hm.pick (own' := [] ++ [.vec A7 c8 22 1 m9 vs10, .blk b1 35 [.int .i64 p, .slice A m c]]) [0, 1] rfl (by decide))) et12
      refine wpl_call _ rfl rfl ht rfl rfl rfl rfl can_52 hcall ?_
      clear hcall
      rintro _ w ⟨rfl, hpost⟩ a ht
      replace hm := (hm.pick (own' := [] ++ [.vec A7 c8 22 1 m9 vs10, .blk b1 35 [.int .i64 p, .slice A m c]]) [0, 1] rfl (by decide)).backL hpost
      clear hpost
      have hS : Ms X (fps []) w0 [.vec A7 c8 22 1 m9 vs10, .blk b1 35 [.int .i64 p, .slice A m c]] [AllInts vs10 t6, IntsAt A c m p2] w := (hm.pick [0, 1] rfl (by decide)).pickφ [0, 1] rfl
      refine wpList_nil (qn ⟨hS, ?_⟩)
      refine wph_take (i := 3) rfl (by kernel_rfl) (by kernel_rfl) (by kernel_rfl) (fun _ _ _ h => h) rfl ht hS (wanted_plain rfl) (fun w hm => ev_arith ht rfl rfl rfl rfl) ?_
      intro a ht
      refine wph_one (i := 4) (by kernel_rfl) (wph_step rfl ?_)
      obtain ⟨t13, et13, H⟩ := bind_get H
      have hcall := impl_position_triangles.calls k _ _ A c m p p2 (w64 (1 - t12)) _ ((hm.pick (own' := [] ++ [.vec A7 c8 22 1 m9 vs10, .blk b1 35 [.int .i64 p, .slice A m c]]) [0, 1] rfl (by decide)).give (passed := []) (rest := [.vec A7 c8 22 1 m9 vs10, .blk b1 35 [.int .i64 p, .slice A m c]]) (φp := [IntsAt A c m p2]) [1] rfl) et13
      refine wpl_call _ rfl rfl ht rfl rfl rfl rfl can_62 hcall ?_
      clear hcall
      rintro _ w ⟨A14, c15, m16, vs17, rfl, hpost⟩ a ht
      replace hm := (hm.pick (own' := [] ++ [.vec A7 c8 22 1 m9 vs10, .blk b1 35 [.int .i64 p, .slice A m c]]) [0, 1] rfl (by decide)).back hpost
      clear hpost
      have hS : Ms X (fps []) w0 [.vec A7 c8 22 1 m9 vs10, .blk b1 35 [.int .i64 p, .slice A m c]] [AllInts vs10 t6, IntsAt A c m p2] w := (hm.pick [1, 2] rfl (by decide)).pickφ [1, 2] rfl
      refine wpList_nil (qn ⟨hS, ?_⟩)
      refine wph_take (i := 5) rfl (by kernel_rfl) (by kernel_rfl) (by kernel_rfl) (fun _ _ _ h => h) rfl ht hS (wanted_plain rfl) (fun w hm => ev_assign ht rfl rfl) ?_
      intro a ht
      refine wph_done (by kernel_rfl) ?_
      refine then_normal ?_
      refine wp_seq ?_
      refine wp_seq ?_
      refine wpr ?_
      refine wpl rfl rfl ht (ev_fieldAddr ht rfl rfl fo_35_1) ?_
      intro a ht
      refine wpl rfl rfl ht (ev_load ht rfl rfl sc_22 (hm.blk_cell 2 rfl rfl)) ?_
      intro a ht
      obtain ⟨t18, et18, H⟩ := bind_get H
      have hcall := impl_size_int64.calls _ _ A c m p2 _ ((fun (hq : Ms _ _ _ ([] ++ [.vec A14 c15 22 1 m16 vs17, .vec A7 c8 22 1 m9 vs10, .blk b1 35 [.int .i64 p, .slice A m c]]) _ _) => hq.lend (φp := [IntsAt A c m p2]) (allRO_cons (hq.lendFact 2 rfl) (allRO_nil))) (hm.pick (own' := [] ++ [.vec A14 c15 22 1 m16 vs17, .vec A7 c8 22 1 m9 vs10, .blk b1 35 [.int .i64 p, .slice A m c]]) [0, 1, 2] rfl (by decide))) et18
      refine wpl_call _ rfl rfl ht rfl rfl rfl rfl can_59 hcall ?_
      clear hcall
      rintro _ w ⟨rfl, hpost⟩ a ht
      replace hm := (hm.pick (own' := [] ++ [.vec A14 c15 22 1 m16 vs17, .vec A7 c8 22 1 m9 vs10, .blk b1 35 [.int .i64 p, .slice A m c]]) [0, 1, 2] rfl (by decide)).backL hpost
      clear hpost
      refine wpl rfl rfl ht (ev_move ht rfl rfl) ?_
      intro a ht
      refine wpList_nil ?_
      refine then_normal ?_
      refine wp_block ?_
      refine wpLoop (fun q a w => ∃ (xs0_1 : Int), impl_position_isPosition.l0 q t13 t18 xs0_1 = some r ∧ q ≤ k ∧ Tm 36 [(2, .bool false), (3, .slice A14 m16 c15), (24, .int .i64 t18), (25, .int .i64 xs0_1)] a ∧ Ms X (fps []) w0 [.vec A14 c15 22 1 m16 vs17, .vec A7 c8 22 1 m9 vs10, .blk b1 35 [.int .i64 p, .slice A m c]] [AllInts vs17 t13, AllInts vs10 t6, IntsAt A c m p2] w) (k0 := k) ⟨0, H, Nat.le_refl _, ht.sub ⟨rfl, rfl, rfl, rfl, trivial⟩, (hm.pick [0, 1, 2] rfl (by decide)).pickφ [0, 1, 2] rfl⟩ ?_
      clear H ht hm
      intro q19 a w hJ
      obtain ⟨xs0_1, H, hqq19, ht, hm⟩ := hJ
      cases q19 with
      | zero => cases H
      | succ q19 =>
      rw [impl_position_isPosition.l0] at H
      refine wp_seq ?_
      refine wpr ?_
      refine wpl rfl rfl ht (ev_cmp ht rfl rfl rfl rfl) ?_
      intro a ht
      refine wpList_nil ?_
      refine then_normal ?_
      refine wp_seq ?_
      by_cases h20 : xs0_1 < t18
      · replace H := ite_yes h20 H
        refine wpc_yes ht rfl (decide_eq_true h20) ?_
        refine wp_skip ?_
        refine then_normal ?_
        refine wp_seq ?_
        refine wp_block ?_
        refine wp_seq ?_
        refine wpr ?_
        refine wpl rfl rfl ht (ev_move ht rfl rfl) ?_
        intro a ht
        refine wpl_alloc rfl rfl ht hm rfl zo_2 ?_
        intro b21 a ht w hm
        refine wpl_store_blk 0 rfl rfl ht hm rfl rfl rfl sz1_2 rfl rfl rfl ?_
        intro a ht w hm
        refine wpList_nil ?_
        refine then_normal ?_
        refine wp_seq ?_
        refine wpr ?_
        refine wpl rfl rfl ht (ev_move ht rfl rfl) ?_
        intro a ht
        refine wpl rfl rfl ht (ev_makeFunc ht rfl rfl rfl) ?_
        intro a ht
        obtain ⟨t22, et22, H⟩ := bind_get H
        have hcall := slices_ContainsFunc_int64_int64__position_isPosition_1.calls q19 _ _ A14 c15 m16 vs17 b21 t13 xs0_1 _ ((fun (hq : Ms _ _ _ ([.blk b21 2 [.int .i64 xs0_1]] ++ [.vec A14 c15 22 1 m16 vs17, .vec A7 c8 22 1 m9 vs10, .blk b1 35 [.int .i64 p, .slice A m c]]) _ _) => hq.lend (φp := [RowsAt A14 c15 m16 vs17 t13]) (allRO_cons (hq.lendRows 0 0 rfl rfl) (allRO_nil))) (hm.pick (own' := [.blk b21 2 [.int .i64 xs0_1]] ++ [.vec A14 c15 22 1 m16 vs17, .vec A7 c8 22 1 m9 vs10, .blk b1 35 [.int .i64 p, .slice A m c]]) [0, 1, 2, 3] rfl (by decide))) et22
        refine wpl_call _ rfl rfl ht rfl rfl rfl rfl can_72 hcall ?_
        clear hcall
        rintro _ w ⟨rfl, hpost⟩ a ht
        replace hm := (hm.pick (own' := [.blk b21 2 [.int .i64 xs0_1]] ++ [.vec A14 c15 22 1 m16 vs17, .vec A7 c8 22 1 m9 vs10, .blk b1 35 [.int .i64 p, .slice A m c]]) [0, 1, 2, 3] rfl (by decide)).backL hpost
        clear hpost
        refine wpl rfl rfl ht (ev_not ht rfl rfl) ?_
        intro a ht
        refine wpList_nil ?_
        refine then_normal ?_
        by_cases h23 : t22 = true
        · replace H := ite_yes h23 H
          refine wpc_no ht rfl (not_t h23) ?_
          refine wp_skip ?_
          refine blk_normal ?_
          refine then_normal ?_
          refine wpr ?_
          refine wpl rfl rfl ht (ev_arith ht rfl rfl rfl rfl) ?_
          intro a ht
          refine wpl rfl rfl ht (ev_move ht rfl rfl) ?_
          intro a ht
          refine wpList_nil ?_
          exact then_normal ⟨q19, by omega, (w64 (xs0_1 + 1)), H, by omega, ht.sub ⟨rfl, rfl, rfl, rfl, trivial⟩, (hm.pick [1, 2, 3] rfl (by decide)).pickφ [0, 1, 2] rfl⟩
        · replace H := ite_no h23 H
          refine wpc_yes ht rfl (not_f (Bool.eq_false_iff.mpr h23)) ?_
          refine wp_seq ?_
          refine wpr ?_
          refine wpl rfl rfl ht (ev_assign ht rfl rfl) ?_
          intro a ht
          refine wpList_nil ?_
          refine then_normal ?_
          refine wp_ret ?_
          refine blk_ret ?_
          refine then_ret ?_
          refine then_ret ?_
          refine blk_ret ?_
          refine then_ret ?_
          have hres := ht.res (P := Try.prog) (w := w) (rs := [.tmp 2]) (vs := [.bool true]) (.tmp rfl .nil)
          obtain rfl := Option.some.inj H
          exact leave ht rfl hres ⟨rfl, ((hm.pick [] rfl (by decide)).pickφ [] rfl).post fun _ h => h⟩
      · replace H := ite_no h20 H
        refine wpc_no ht rfl (decide_eq_false h20) ?_
        refine wp_exit ?_
        refine then_exit ?_
        refine then_exit ?_
        refine blk_hit ?_
        refine then_normal ?_
        refine wp_seq ?_
        refine wpr ?_
        refine wpl rfl rfl ht (ev_move ht rfl rfl) ?_
        intro a ht
        refine wpl rfl rfl ht (ev_len_rows ht rfl rfl und_52 (hm.rowsOf 0 0 rfl rfl)) ?_
        intro a ht
        refine wpl rfl rfl ht (ev_cmp ht rfl rfl rfl rfl) ?_
        intro a ht
        refine wpl rfl rfl ht (ev_assign ht rfl rfl) ?_
        intro a ht
        refine wpList_nil ?_
        refine then_normal ?_
        refine wp_ret ?_
        have hres := ht.res (P := Try.prog) (w := w) (rs := [.tmp 2]) (vs := [.bool (decide ((t13.length : Int) = 0))]) (.tmp rfl .nil)
        obtain rfl := Option.some.inj H
        exact leave ht rfl hres ⟨rfl, ((hm.pick [] rfl (by decide)).pickφ [] rfl).post fun _ h => h⟩
  · replace H := ite_no h4 H
    refine wph_pass (i := 5) rfl (by kernel_rfl) (by kernel_rfl) (by kernel_rfl) (fun _ _ _ h => h) rfl ht hS (wanted_no rfl ht rfl (by rw [(not_f (Bool.eq_false_iff.mpr h4))]; decide)) ?_
    intro a ht
    refine wph_pass (i := 6) rfl (by kernel_rfl) (by kernel_rfl) (by kernel_rfl) (fun _ _ _ h => h) rfl ht hS (wanted_no rfl ht rfl (by rw [(not_f (Bool.eq_false_iff.mpr h4))]; decide)) ?_
    intro a ht
    refine wph_pass (i := 7) rfl (by kernel_rfl) (by kernel_rfl) (by kernel_rfl) (fun _ _ _ h => h) rfl ht hS (wanted_no rfl ht rfl (by rw [(not_f (Bool.eq_false_iff.mpr h4))]; decide)) ?_
    intro a ht
    refine wph_pass (i := 8) rfl (by kernel_rfl) (by kernel_rfl) (by kernel_rfl) (fun _ _ _ h => h) rfl ht hS (wanted_no rfl ht rfl (by rw [(not_f (Bool.eq_false_iff.mpr h4))]; decide)) ?_
    intro a ht
    refine wph_pass (i := 9) rfl (by kernel_rfl) (by kernel_rfl) (by kernel_rfl) (fun _ _ _ h => h) rfl ht hS (wanted_no rfl ht rfl (by rw [(not_f (Bool.eq_false_iff.mpr h4))]; decide)) ?_
    intro a ht
    refine wph_pass (i := 10) rfl (by kernel_rfl) (by kernel_rfl) (by kernel_rfl) (fun _ _ _ h => h) rfl ht hS (wanted_no rfl ht rfl (by rw [(not_f (Bool.eq_false_iff.mpr h4))]; decide)) ?_
    intro a ht
    refine wph_take (i := 11) rfl (by kernel_rfl) (by kernel_rfl) (by kernel_rfl) (fun _ _ _ h => h) rfl ht hS (wanted_plain rfl) (fun w hm => ev_pick_yes ht rfl rfl (not_f (Bool.eq_false_iff.mpr h4)) rfl) ?_
    intro a ht
    refine wph_done (by kernel_rfl) ?_
    refine then_normal ?_
    refine wpc_yes ht rfl rfl ?_
    refine wp_seq ?_
    refine wpr ?_
    refine wpl rfl rfl ht (ev_assign ht rfl rfl) ?_
    intro a ht
    refine wpList_nil ?_
    refine then_normal ?_
    refine wp_ret ?_
    refine then_ret ?_
    have hres := ht.res (P := Try.prog) (w := w) (rs := [.tmp 2]) (vs := [.bool false]) (.tmp rfl .nil)
    obtain rfl := Option.some.inj H
    exact leave ht rfl hres ⟨rfl, ((hm.pick [] rfl (by decide)).pickφ [] rfl).post fun _ h => h⟩

/-! ### impl_position_code__always: function 46 ((loop.example/g01362/impl.position).code) -/
def impl_position_code__always.f (k : Nat) (p : Int) (p2 : List Int) : Option (Int) := (impl_position_isShape.f k p p2).bind fun t2 => if t2 = true then ((impl_always.f ).bind fun t4 => if t4 = true then ((impl_position_isPosition.f k p p2).bind fun t6 => if t6 = true then (some 0) else (some 1)) else (some 2)) else (some 2)
set_option maxRecDepth 100000 in
set_option maxHeartbeats 1000000 in
theorem impl_position_code__always.calls (k : Nat) (X : List Nat) (w0 : World) (A : Option Addr) (c : Nat) (m : Nat) (p : Int) (p2 : List Int) (r : Int)
    (hp : Pre X w0 [] [IntsAt A c m p2]) (H : impl_position_code__always.f k p p2 = some r) :
    Calls Try.prog 46 [.agg [.int .i64 p, .slice A m c].toArray, .func (.func 47) #[] #[]].toArray w0 (Ret fun v w => v = .int .i64 r ∧ Post X (fps []) w0 [] [] w) := by
  unfold impl_position_code__always.f at H
  refine enterM (n := 18) hp Try.func46 rfl rfl (Nat.le_of_ble_eq_true rfl) fun a w ht hm => ?_
  refine wp_seq ?_
  refine wpr ?_
  refine wpl_box rfl rfl ht hm rfl rfl rfl ?_
  intro b1 a ht w hm
  refine wpl rfl rfl ht (ev_assign ht rfl rfl) ?_
  intro a ht
  refine wpList_nil ?_
  refine then_normal ?_
  refine wp_seq ?_
  refine wp_block ?_
  refine wp_seq ?_
  refine wpr ?_
  refine wpl rfl rfl ht (ev_load_agg (xs := [.int .i64 p, .slice A m c]) ht rfl rfl ag_35 (hm.blk_all 0 rfl)) ?_
  intro a ht
  obtain ⟨t2, et2, H⟩ := bind_get H
  have hcall := impl_position_isShape.calls k _ _ A c m p p2 _ ((fun (hq : Ms _ _ _ ([] ++ [.blk b1 35 [.int .i64 p, .slice A m c]]) _ _) => hq.lend (φp := [IntsAt A c m p2]) (allRO_cons (hq.lendFact 0 rfl) (allRO_nil))) (hm.pick (own' := [] ++ [.blk b1 35 [.int .i64 p, .slice A m c]]) [0] rfl (by decide))) et2
  refine wpl_call _ rfl rfl ht rfl rfl rfl rfl can_39 hcall ?_
  clear hcall
  rintro _ w ⟨rfl, hpost⟩ a ht
  replace hm := (hm.pick (own' := [] ++ [.blk b1 35 [.int .i64 p, .slice A m c]]) [0] rfl (by decide)).backL hpost
  clear hpost
  refine wpl rfl rfl ht (ev_not ht rfl rfl) ?_
  intro a ht
  refine wpl rfl rfl ht (ev_move ht rfl rfl) ?_
  intro a ht
  by_cases h3 : t2 = true
  · replace H := ite_yes h3 H
    refine wpl_yes rfl ht rfl ((not_t h3)) ?_
    refine wpl rfl rfl ht (ev_move ht rfl rfl) ?_
    intro a ht
    refine wpl_yes rfl ht rfl ((not_t h3)) ?_
    obtain ⟨t4, et4, H⟩ := bind_get H
    have hcall := impl_always.calls _ _ _ ((fun (hq : Ms _ _ _ ([] ++ [.blk b1 35 [.int .i64 p, .slice A m c]]) _ _) => hq.lend (φp := []) (allRO_nil)) (hm.pick (own' := [] ++ [.blk b1 35 [.int .i64 p, .slice A m c]]) [0] rfl (by decide))) et4
    refine wpl_call _ rfl rfl ht rfl rfl rfl rfl can_47 hcall ?_
    clear hcall
    rintro _ w ⟨rfl, hpost⟩ a ht
    replace hm := (hm.pick (own' := [] ++ [.blk b1 35 [.int .i64 p, .slice A m c]]) [0] rfl (by decide)).backL hpost
    clear hpost
    refine wpl_yes rfl ht rfl ((not_t h3)) ?_
    refine wpl rfl rfl ht (ev_not ht rfl rfl) ?_
    intro a ht
    refine wpl rfl rfl ht (ev_pick_no ht rfl rfl (not_t h3) rfl) ?_
    intro a ht
    refine wpl rfl rfl ht (ev_assign ht rfl rfl) ?_
    intro a ht
    refine wpList_nil ?_
    refine then_normal ?_
    by_cases h5 : t4 = true
    · replace H := ite_yes h5 H
      refine wpc_no ht rfl (not_t h5) ?_
      refine wp_seq ?_
      refine wpr ?_
      refine wpl rfl rfl ht (ev_load_agg (xs := [.int .i64 p, .slice A m c]) ht rfl rfl ag_35 (hm.blk_all 0 rfl)) ?_
      intro a ht
      obtain ⟨t6, et6, H⟩ := bind_get H
      have hcall := impl_position_isPosition.calls k _ _ A c m p p2 _ ((fun (hq : Ms _ _ _ ([] ++ [.blk b1 35 [.int .i64 p, .slice A m c]]) _ _) => hq.lend (φp := [IntsAt A c m p2]) (allRO_cons (hq.lendFact 0 rfl) (allRO_nil))) (hm.pick (own' := [] ++ [.blk b1 35 [.int .i64 p, .slice A m c]]) [0] rfl (by decide))) et6
      refine wpl_call _ rfl rfl ht rfl rfl rfl rfl can_40 hcall ?_
      clear hcall
      rintro _ w ⟨rfl, hpost⟩ a ht
      replace hm := (hm.pick (own' := [] ++ [.blk b1 35 [.int .i64 p, .slice A m c]]) [0] rfl (by decide)).backL hpost
      clear hpost
      refine wpl rfl rfl ht (ev_not ht rfl rfl) ?_
      intro a ht
      refine wpl rfl rfl ht (ev_assign ht rfl rfl) ?_
      intro a ht
      refine wpList_nil ?_
      refine then_normal ?_
      by_cases h7 : t6 = true
      · replace H := ite_yes h7 H
        refine wpc_no ht rfl (not_t h7) ?_
        refine wp_skip ?_
        refine blk_normal ?_
        refine then_normal ?_
        refine wp_seq ?_
        refine wpr ?_
        refine wpl rfl rfl ht (ev_assign ht rfl rfl) ?_
        intro a ht
        refine wpList_nil ?_
        refine then_normal ?_
        refine wp_ret ?_
        have hres := ht.res (P := Try.prog) (w := w) (rs := [.tmp 4]) (vs := [.int .i64 0]) (.tmp rfl .nil)
        obtain rfl := Option.some.inj H
        exact leave ht rfl hres ⟨rfl, ((hm.pick [] rfl (by decide)).pickφ [] rfl).post fun _ h => h⟩
      · replace H := ite_no h7 H
        refine wpc_yes ht rfl (not_f (Bool.eq_false_iff.mpr h7)) ?_
        refine wp_seq ?_
        refine wpr ?_
        refine wpl rfl rfl ht (ev_assign ht rfl rfl) ?_
        intro a ht
        refine wpList_nil ?_
        refine then_normal ?_
        refine wp_ret ?_
        refine blk_ret ?_
        refine then_ret ?_
        have hres := ht.res (P := Try.prog) (w := w) (rs := [.tmp 4]) (vs := [.int .i64 1]) (.tmp rfl .nil)
        obtain rfl := Option.some.inj H
        exact leave ht rfl hres ⟨rfl, ((hm.pick [] rfl (by decide)).pickφ [] rfl).post fun _ h => h⟩
    · replace H := ite_no h5 H
      refine wpc_yes ht rfl (not_f (Bool.eq_false_iff.mpr h5)) ?_
      refine wp_seq ?_
      refine wpr ?_
      refine wpl rfl rfl ht (ev_assign ht rfl rfl) ?_
      intro a ht
      refine wpList_nil ?_
      refine then_normal ?_
      refine wp_ret ?_
      refine blk_ret ?_
      refine then_ret ?_
      have hres := ht.res (P := Try.prog) (w := w) (rs := [.tmp 4]) (vs := [.int .i64 2]) (.tmp rfl .nil)
      obtain rfl := Option.some.inj H
      exact leave ht rfl hres ⟨rfl, ((hm.pick [] rfl (by decide)).pickφ [] rfl).post fun _ h => h⟩
  · replace H := ite_no h3 H
    refine wpl_no rfl rfl ht rfl (by rw [(not_f (Bool.eq_false_iff.mpr h3))]; decide) ?_
    intro a ht
    refine wpl_no rfl rfl ht rfl (by rw [(not_f (Bool.eq_false_iff.mpr h3))]; decide) ?_
    intro a ht
    refine wpl_no rfl rfl ht rfl (by rw [(not_f (Bool.eq_false_iff.mpr h3))]; decide) ?_
    intro a ht
    refine wpl rfl rfl ht (ev_pick_yes ht rfl rfl (not_f (Bool.eq_false_iff.mpr h3)) rfl) ?_
    intro a ht
    refine wpl rfl rfl ht (ev_assign ht rfl rfl) ?_
    intro a ht
    refine wpList_nil ?_
    refine then_normal ?_
    refine wpc_yes ht rfl rfl ?_
    refine wp_seq ?_
    refine wpr ?_
    refine wpl rfl rfl ht (ev_assign ht rfl rfl) ?_
    intro a ht
    refine wpList_nil ?_
    refine then_normal ?_
    refine wp_ret ?_
    refine blk_ret ?_
    refine then_ret ?_
    have hres := ht.res (P := Try.prog) (w := w) (rs := [.tmp 4]) (vs := [.int .i64 2]) (.tmp rfl .nil)
    obtain rfl := Option.some.inj H
    exact leave ht rfl hres ⟨rfl, ((hm.pick [] rfl (by decide)).pickφ [] rfl).post fun _ h => h⟩

/-! ### impl_position_result: function 48 ((loop.example/g01362/impl.position).result) -/
def impl_position_result.f (k : Nat) (p : Int) (p2 : List Int) : Option (Int) := (impl_position_mover.f k p p2).bind fun t2 => (impl_position_triangles.f k p p2 (w64 (1 - t2))).bind fun t3 => if (t3.length : Int) > 0 then ((impl_position_mover.f k p p2).bind fun t9 => some t9) else ((impl_position_many.f k p p2 (-1)).bind fun t10 => if t10 = 0 then (some 2) else (some (-1)))
set_option maxRecDepth 100000 in
set_option maxHeartbeats 1000000 in
theorem impl_position_result.calls (k : Nat) (X : List Nat) (w0 : World) (A : Option Addr) (c : Nat) (m : Nat) (p : Int) (p2 : List Int) (r : Int)
    (hp : Pre X w0 [] [IntsAt A c m p2]) (H : impl_position_result.f k p p2 = some r) :
    Calls Try.prog 48 [.agg [.int .i64 p, .slice A m c].toArray].toArray w0 (Ret fun v w => v = .int .i64 r ∧ Post X (fps []) w0 [] [] w) := by
  unfold impl_position_result.f at H
  refine enterM (n := 17) hp Try.func48 rfl rfl (Nat.le_of_ble_eq_true rfl) fun a w ht hm => ?_
  refine wp_seq ?_
  refine wpr ?_
  refine wpl_box rfl rfl ht hm rfl rfl rfl ?_
  intro b1 a ht w hm
  refine wpl rfl rfl ht (ev_assign ht rfl rfl) ?_
  intro a ht
  refine wpList_nil ?_
  refine then_normal ?_
  refine wp_seq ?_
  refine wp_block ?_
  refine wp_seq ?_
  refine wph_begin (fun w => Ms X (fps []) w0 [.blk b1 35 [.int .i64 p, .slice A m c]] [IntsAt A c m p2] w) mixed ?_
  replace hm := hm.drew
  have hS : Ms X (fps []) w0 [.blk b1 35 [.int .i64 p, .slice A m c]] [IntsAt A c m p2] w.drew := (hm.pick [0] rfl (by decide)).pickφ [0] rfl
  generalize w.drew = w at hm hS ⊢
  refine wph_take (i := 0) rfl (by kernel_rfl) (by kernel_rfl) (by kernel_rfl) (fun _ _ _ h => h) rfl ht hS (wanted_plain rfl) (fun w hm => ev_load_agg (xs := [.int .i64 p, .slice A m c]) ht rfl rfl ag_35 (hm.blk_all 0 rfl)) ?_
  intro a ht
  refine wph_take (i := 1) rfl (by kernel_rfl) (by kernel_rfl) (by kernel_rfl) (fun _ _ _ h => h) rfl ht hS (wanted_plain rfl) (fun w hm => ev_load_agg (xs := [.int .i64 p, .slice A m c]) ht rfl rfl ag_35 (hm.blk_all 0 rfl)) ?_
  intro a ht
  refine wph_one (i := 2) (by kernel_rfl) (wph_step rfl ?_)
  obtain ⟨t2, et2, H⟩ := bind_get H
  have hcall := impl_position_mover.calls k _ _ A c m p p2 _ ((fun (hq : Ms _ _ _ ([] ++ [.blk b1 35 [.int .i64 p, .slice A m c]]) _ _) => hq.lend (φp := [IntsAt A c m p2]) (allRO_cons (hq.lendFact 0 rfl) (allRO_nil))) (hm.pick (own' := [] ++ [.blk b1 35 [.int .i64 p, .slice A m c]]) [0] rfl (by decide))) et2
  refine wpl_call _ rfl rfl ht rfl rfl rfl rfl can_52 hcall ?_
  clear hcall
  rintro _ w ⟨rfl, hpost⟩ a ht
  replace hm := (hm.pick (own' := [] ++ [.blk b1 35 [.int .i64 p, .slice A m c]]) [0] rfl (by decide)).backL hpost
  clear hpost
  have hS : Ms X (fps []) w0 [.blk b1 35 [.int .i64 p, .slice A m c]] [IntsAt A c m p2] w := (hm.pick [0] rfl (by decide)).pickφ [0] rfl
  refine wpList_nil (qn ⟨hS, ?_⟩)
  refine wph_take (i := 3) rfl (by kernel_rfl) (by kernel_rfl) (by kernel_rfl) (fun _ _ _ h => h) rfl ht hS (wanted_plain rfl) (fun w hm => ev_arith ht rfl rfl rfl rfl) ?_
  intro a ht
  refine wph_one (i := 4) (by kernel_rfl) (wph_step rfl ?_)
  obtain ⟨t3, et3, H⟩ := bind_get H
  have hcall := impl_position_triangles.calls k _ _ A c m p p2 (w64 (1 - t2)) _ ((hm.pick (own' := [] ++ [.blk b1 35 [.int .i64 p, .slice A m c]]) [0] rfl (by decide)).give (passed := []) (rest := [.blk b1 35 [.int .i64 p, .slice A m c]]) (φp := [IntsAt A c m p2]) [0] rfl) et3
  refine wpl_call _ rfl rfl ht rfl rfl rfl rfl can_62 hcall ?_
  clear hcall
  rintro _ w ⟨A4, c5, m6, vs7, rfl, hpost⟩ a ht
  replace hm := (hm.pick (own' := [] ++ [.blk b1 35 [.int .i64 p, .slice A m c]]) [0] rfl (by decide)).back hpost
  clear hpost
  have hS : Ms X (fps []) w0 [.blk b1 35 [.int .i64 p, .slice A m c]] [IntsAt A c m p2] w := (hm.pick [1] rfl (by decide)).pickφ [1] rfl
  refine wpList_nil (qn ⟨hS, ?_⟩)
  refine wph_one (i := 5) (by kernel_rfl) (wph_step rfl ?_)
  refine wpl rfl rfl ht (ev_len_rows ht rfl rfl und_52 (hm.rowsOf 0 0 rfl rfl)) ?_
  intro a ht
  have hS : Ms X (fps []) w0 [.blk b1 35 [.int .i64 p, .slice A m c]] [IntsAt A c m p2] w := (hm.pick [1] rfl (by decide)).pickφ [1] rfl
  refine wpList_nil (qn ⟨hS, ?_⟩)
  refine wph_take (i := 6) rfl (by kernel_rfl) (by kernel_rfl) (by kernel_rfl) (fun _ _ _ h => h) rfl ht hS (wanted_plain rfl) (fun w hm => ev_cmp ht rfl rfl rfl rfl) ?_
  intro a ht
  refine wph_take (i := 7) rfl (by kernel_rfl) (by kernel_rfl) (by kernel_rfl) (fun _ _ _ h => h) rfl ht hS (wanted_plain rfl) (fun w hm => ev_assign ht rfl rfl) ?_
  intro a ht
  refine wph_done (by kernel_rfl) ?_
  refine then_normal ?_
  by_cases h8 : (t3.length : Int) > 0
  · replace H := ite_yes h8 H
    refine wpc_yes ht rfl (decide_eq_true h8) ?_
    refine wp_seq ?_
    refine wpr ?_
    refine wpl rfl rfl ht (ev_load_agg (xs := [.int .i64 p, .slice A m c]) ht rfl rfl ag_35 (hm.blk_all 1 rfl)) ?_
    intro a ht
    obtain ⟨t9, et9, H⟩ := bind_get H
    have hcall := impl_position_mover.calls k _ _ A c m p p2 _ ((fun (hq : Ms _ _ _ ([] ++ [.vec A4 c5 22 1 m6 vs7, .blk b1 35 [.int .i64 p, .slice A m c]]) _ _) => hq.lend (φp := [IntsAt A c m p2]) (allRO_cons (hq.lendFact 1 rfl) (allRO_nil))) (hm.pick (own' := [] ++ [.vec A4 c5 22 1 m6 vs7, .blk b1 35 [.int .i64 p, .slice A m c]]) [0, 1] rfl (by decide))) et9
    refine wpl_call _ rfl rfl ht rfl rfl rfl rfl can_52 hcall ?_
    clear hcall
    rintro _ w ⟨rfl, hpost⟩ a ht
    replace hm := (hm.pick (own' := [] ++ [.vec A4 c5 22 1 m6 vs7, .blk b1 35 [.int .i64 p, .slice A m c]]) [0, 1] rfl (by decide)).backL hpost
    clear hpost
    refine wpl rfl rfl ht (ev_assign ht rfl rfl) ?_
    intro a ht
    refine wpList_nil ?_
    refine then_normal ?_
    refine wp_ret ?_
    refine blk_ret ?_
    refine then_ret ?_
    have hres := ht.res (P := Try.prog) (w := w) (rs := [.tmp 2]) (vs := [.int .i64 t9]) (.tmp rfl .nil)
    obtain rfl := Option.some.inj H
    exact leave ht rfl hres ⟨rfl, ((hm.pick [] rfl (by decide)).pickφ [] rfl).post fun _ h => h⟩
  · replace H := ite_no h8 H
    refine wpc_no ht rfl (decide_eq_false h8) ?_
    refine wp_seq ?_
    refine wpr ?_
    refine wpl rfl rfl ht (ev_load_agg (xs := [.int .i64 p, .slice A m c]) ht rfl rfl ag_35 (hm.blk_all 1 rfl)) ?_
    intro a ht
    obtain ⟨t10, et10, H⟩ := bind_get H
    have hcall := impl_position_many.calls k _ _ A c m p p2 (-1) _ ((fun (hq : Ms _ _ _ ([] ++ [.vec A4 c5 22 1 m6 vs7, .blk b1 35 [.int .i64 p, .slice A m c]]) _ _) => hq.lend (φp := [IntsAt A c m p2]) (allRO_cons (hq.lendFact 1 rfl) (allRO_nil))) (hm.pick (own' := [] ++ [.vec A4 c5 22 1 m6 vs7, .blk b1 35 [.int .i64 p, .slice A m c]]) [0, 1] rfl (by decide))) et10
    refine wpl_call _ rfl rfl ht rfl rfl rfl rfl can_76 hcall ?_
    clear hcall
    rintro _ w ⟨rfl, hpost⟩ a ht
    replace hm := (hm.pick (own' := [] ++ [.vec A4 c5 22 1 m6 vs7, .blk b1 35 [.int .i64 p, .slice A m c]]) [0, 1] rfl (by decide)).backL hpost
    clear hpost
    refine wpl rfl rfl ht (ev_cmp ht rfl rfl rfl rfl) ?_
    intro a ht
    refine wpl rfl rfl ht (ev_assign ht rfl rfl) ?_
    intro a ht
    refine wpList_nil ?_
    refine then_normal ?_
    by_cases h11 : t10 = 0
    · replace H := ite_yes h11 H
      refine wpc_yes ht rfl (decide_eq_true h11) ?_
      refine wp_seq ?_
      refine wpr ?_
      refine wpl rfl rfl ht (ev_assign ht rfl rfl) ?_
      intro a ht
      refine wpList_nil ?_
      refine then_normal ?_
      refine wp_ret ?_
      refine blk_ret ?_
      refine then_ret ?_
      have hres := ht.res (P := Try.prog) (w := w) (rs := [.tmp 2]) (vs := [.int .i64 2]) (.tmp rfl .nil)
      obtain rfl := Option.some.inj H
      exact leave ht rfl hres ⟨rfl, ((hm.pick [] rfl (by decide)).pickφ [] rfl).post fun _ h => h⟩
    · replace H := ite_no h11 H
      refine wpc_no ht rfl (decide_eq_false h11) ?_
      refine wp_skip ?_
      refine blk_normal ?_
      refine then_normal ?_
      refine wp_seq ?_
      refine wpr ?_
      refine wpl rfl rfl ht (ev_assign ht rfl rfl) ?_
      intro a ht
      refine wpList_nil ?_
      refine then_normal ?_
      refine wp_ret ?_
      have hres := ht.res (P := Try.prog) (w := w) (rs := [.tmp 2]) (vs := [.int .i64 (-1)]) (.tmp rfl .nil)
      obtain rfl := Option.some.inj H
      exact leave ht rfl hres ⟨rfl, ((hm.pick [] rfl (by decide)).pickφ [] rfl).post fun _ h => h⟩

/-! ### impl_position_key: function 84 ((loop.example/g01362/impl.position).key) -/
def impl_position_key.l0 : Nat → List Int → List Int → Int → Option (ByteArray)
  | 0, _, _, _ => none
  | q3 + 1, p2, ls0_4, xs0_5 => if xs0_5 < (p2.length : Int) then ((getI p2 xs0_5).bind fun t5 => (getI [46, 48, 49] (w64 (t5 + 1))).bind fun t6 => (push ls0_4 t6).bind fun l11 => impl_position_key.l0 q3 p2 l11 (w64 (xs0_5 + 1))) else (some (strOf ls0_4))
def impl_position_key.f (k : Nat) (p : Int) (p2 : List Int) : Option (ByteArray) := impl_position_key.l0 k p2 ([] : List Int) 0
set_option maxRecDepth 100000 in
set_option maxHeartbeats 1000000 in
theorem impl_position_key.calls (k : Nat) (X : List Nat) (w0 : World) (A : Option Addr) (c : Nat) (m : Nat) (p : Int) (p2 : List Int) (r : ByteArray)
    (hp : Pre X w0 [] [IntsAt A c m p2]) (H : impl_position_key.f k p p2 = some r) :
    Calls Try.prog 84 [.agg [.int .i64 p, .slice A m c].toArray].toArray w0 (Ret fun v w => v = .string r ∧ Post X (fps []) w0 [] [] w) := by
  unfold impl_position_key.f at H
  refine enterM (n := 23) hp Try.func84 rfl rfl (Nat.le_of_ble_eq_true rfl) fun a w ht hm => ?_
  refine wp_seq ?_
  refine wpr ?_
  refine wpl_box rfl rfl ht hm rfl rfl rfl ?_
  intro b1 a ht w hm
  refine wpl rfl rfl ht (ev_assign ht rfl rfl) ?_
  intro a ht
  refine wpList_nil ?_
  refine then_normal ?_
  refine wp_seq ?_
  refine wpr ?_
  refine wpl_buildSlice (vs := ints8 ([] : List Int)) rfl rfl ht hm rfl und_74 zo_5 sz1_5 (by decide) rfl rfl rfl ?_
  intro A2 a ht w hm
  refine wpl rfl rfl ht (ev_assign ht rfl rfl) ?_
  intro a ht
  refine wpList_nil ?_
  refine then_normal ?_
  refine wp_seq ?_
  refine wp_seq ?_
  refine wpr ?_
  refine wpl rfl rfl ht (ev_fieldAddr ht rfl rfl fo_35_1) ?_
  intro a ht
  refine wpl rfl rfl ht (ev_load ht rfl rfl sc_22 (hm.blk_cell 1 rfl rfl)) ?_
  intro a ht
  refine wpl rfl rfl ht (ev_len_of ht rfl rfl und_22 (hm.fact (φ := IntsAt A c m p2) 0 rfl)) ?_
  intro a ht
  refine wpl rfl rfl ht (ev_move ht rfl rfl) ?_
  intro a ht
  refine wpList_nil ?_
  refine then_normal ?_
  refine wp_block ?_
  refine wpLoop (fun q a w => ∃ (ls0_4 : List Int) (xs0_5 : Int) (As0_1 : Option Addr) (cs0_2 : Nat) (ms0_3 : Nat), impl_position_key.l0 q p2 ls0_4 xs0_5 = some r ∧ q ≤ k ∧ Tm 23 [(2, .string (⟨#[]⟩)), (3, .slice As0_1 ms0_3 cs0_2), (8, .slice A m c), (9, .int .i64 (p2.length : Int)), (10, .int .i64 xs0_5)] a ∧ Ms X (fps []) w0 [.vec As0_1 cs0_2 5 1 ms0_3 (ints8 ls0_4), .blk b1 35 [.int .i64 p, .slice A m c]] [IntsAt A c m p2] w) (k0 := k) ⟨([] : List Int), 0, A2, 0, 0, H, Nat.le_refl _, ht.sub ⟨rfl, rfl, rfl, rfl, rfl, trivial⟩, (hm.pick [0, 1] rfl (by decide)).pickφ [0] rfl⟩ ?_
  clear H ht hm
  intro q3 a w hJ
  obtain ⟨ls0_4, xs0_5, As0_1, cs0_2, ms0_3, H, hqq3, ht, hm⟩ := hJ
  cases q3 with
  | zero => cases H
  | succ q3 =>
  rw [impl_position_key.l0] at H
  refine wp_seq ?_
  refine wpr ?_
  refine wpl rfl rfl ht (ev_cmp ht rfl rfl rfl rfl) ?_
  intro a ht
  refine wpList_nil ?_
  refine then_normal ?_
  refine wp_seq ?_
  by_cases h4 : xs0_5 < (p2.length : Int)
  · replace H := ite_yes h4 H
    refine wpc_yes ht rfl (decide_eq_true h4) ?_
    refine wp_skip ?_
    refine then_normal ?_
    refine wp_seq ?_
    refine wp_block ?_
    refine wp_seq ?_
    refine wpr ?_
    obtain ⟨t5, et5, H⟩ := bind_get H
    refine wpl rfl rfl ht (ev_index_ints ht rfl rfl rfl so_22 (hm.fact (φ := IntsAt A c m p2) 0 rfl) et5) ?_
    intro a ht
    refine wpl rfl rfl ht (ev_load ht rfl rfl sc_2 (RowAt.cell (hm.fact (φ := IntsAt A c m p2) 0 rfl) (ints_get et5) rfl)) ?_
    intro a ht
    refine wpl rfl rfl ht (ev_assign ht rfl rfl) ?_
    intro a ht
    refine wpList_nil ?_
    refine then_normal ?_
    refine wpr ?_
    refine wpl rfl rfl ht (ev_move ht rfl rfl) ?_
    intro a ht
    refine wpl rfl rfl ht (ev_move ht rfl rfl) ?_
    intro a ht
    refine wpl rfl rfl ht (ev_arith ht rfl rfl rfl rfl) ?_
    intro a ht
    obtain ⟨t6, et6, H⟩ := bind_get H
    refine wpl rfl rfl ht (ev_index_text (l := [46, 48, 49]) ht rfl rfl rfl und_9 rfl et6) ?_
    intro a ht
    refine wpl_buildSlice (vs := ints8 ([t6])) rfl rfl ht hm rfl und_74 zo_5 sz1_5 (by decide) rfl rfl rfl ?_
    intro A7 a ht w hm
    obtain ⟨l11, el11, H⟩ := bind_get H
    refine wpl_push8 (r := l11) 1 0 rfl rfl ht hm rfl ap_74 rfl rfl rfl rfl el11 ?_
    intro A8 c9 m10 a ht w hm
    refine wpl rfl rfl ht (ev_assign ht rfl rfl) ?_
    intro a ht
    refine wpList_nil ?_
    refine blk_normal ?_
    refine then_normal ?_
    refine wpr ?_
    refine wpl rfl rfl ht (ev_arith ht rfl rfl rfl rfl) ?_
    intro a ht
    refine wpl rfl rfl ht (ev_move ht rfl rfl) ?_
    intro a ht
    refine wpList_nil ?_
    exact then_normal ⟨q3, by omega, l11, (w64 (xs0_5 + 1)), A8, c9, m10, H, by omega, ht.sub ⟨rfl, rfl, rfl, rfl, rfl, trivial⟩, (hm.pick [1, 2] rfl (by decide)).pickφ [0] rfl⟩
  · replace H := ite_no h4 H
    refine wpc_no ht rfl (decide_eq_false h4) ?_
    refine wp_exit ?_
    refine then_exit ?_
    refine then_exit ?_
    refine blk_hit ?_
    refine then_normal ?_
    refine wp_seq ?_
    refine wpr ?_
    refine wpl rfl rfl ht (ev_move ht rfl rfl) ?_
    intro a ht
    refine wpl rfl rfl ht (ev_convert_text ht rfl rfl und_74 und_5 und_9 (hm.vec_row 0 rfl)) ?_
    intro a ht
    refine wpl rfl rfl ht (ev_assign ht rfl rfl) ?_
    intro a ht
    refine wpList_nil ?_
    refine then_normal ?_
    refine wp_ret ?_
    have hres := ht.res (P := Try.prog) (w := w) (rs := [.tmp 2]) (vs := [.string (strOf ls0_4)]) (.tmp rfl .nil)
    obtain rfl := Option.some.inj H
    exact leave ht rfl hres ⟨rfl, ((hm.pick [] rfl (by decide)).pickφ [] rfl).post fun _ h => h⟩

/-! ### slices_Clone_int64_int64: function 67 (slices.Clone[[]int64,int64]) -/
def slices_Clone_int64_int64.f (s : List Int) : Option (List Int) := (concat ([] : List Int) s).bind fun l6 => some l6
set_option maxRecDepth 100000 in
set_option maxHeartbeats 1000000 in
theorem slices_Clone_int64_int64.calls (X : List Nat) (w0 : World) (A : Option Addr) (c : Nat) (m : Nat) (s : List Int) (r : List Int)
    (hp : Pre X w0 [] [IntsAt A c m s]) (H : slices_Clone_int64_int64.f s = some r) :
    Calls Try.prog 67 [.slice A m c].toArray w0 (Ret fun v w => ∃ (A_0 : Option Addr) (c_0 : Nat) (n_0 : Nat), v = .slice A_0 n_0 c_0 ∧ Post X (fps []) w0 [.vec A_0 c_0 2 1 n_0 (ints r)] [] w) := by
  unfold slices_Clone_int64_int64.f at H
  refine enterM (n := 8) hp Try.func67 rfl rfl (Nat.le_of_ble_eq_true rfl) fun a w ht hm => ?_
  refine wp_seq ?_
  refine wpr ?_
  refine wpl rfl rfl ht (ev_assign ht rfl rfl) ?_
  intro a ht
  refine wpList_nil ?_
  refine then_normal ?_
  refine wp_seq ?_
  refine wp_seq ?_
  refine wpr ?_
  refine wpl rfl rfl ht (ev_move ht rfl rfl) ?_
  intro a ht
  cases A with
  | none =>
    have hnil : s = [] := IntsAt.none (hm.fact (φ := IntsAt none c m s) 0 rfl)
    refine wpl rfl rfl ht (ev_eq_nil_none ht rfl rfl rfl und_22) ?_
    intro a ht
    refine wpList_nil ?_
    refine then_normal ?_
    refine wpc_yes ht rfl rfl ?_
    refine wp_seq ?_
    refine wpr ?_
    refine wpl rfl rfl ht (ev_assign ht rfl rfl) ?_
    intro a ht
    refine wpList_nil ?_
    refine then_normal ?_
    refine wp_ret ?_
    refine then_ret ?_
    have hres := ht.res (P := Try.prog) (w := w) (rs := [.tmp 2]) (vs := [.slice none 0 0]) (.tmp rfl .nil)
    replace hm : Ms _ _ _ (.vec none 0 2 1 0 (ints ([] : List Int)) :: _) _ w := hm.nilVec none 2 1
    obtain rfl : r = [] := by rw [hnil] at H; exact clone_nil H
    exact leave ht rfl hres ⟨none, 0, 0, rfl, ((hm.pick [0] rfl (by decide)).pickφ [] rfl).post fun _ h => h⟩
  | some A =>
    refine wpl rfl rfl ht (ev_eq_nil_some ht rfl rfl rfl und_22) ?_
    intro a ht
    refine wpList_nil ?_
    refine then_normal ?_
    refine wpc_no ht rfl rfl ?_
    refine wp_skip ?_
    refine then_normal ?_
    refine wp_seq ?_
    refine wpr ?_
    refine wpl_build_ints (l := ([] : List Int)) rfl rfl ht hm rfl und_22 zo_2 sz1_2 (by decide) rfl rfl rfl ?_
    intro A2 a ht w hm
    refine wpl rfl rfl ht (ev_move ht rfl rfl) ?_
    intro a ht
    obtain ⟨l6, el6, H⟩ := bind_get H
    refine wpl_concat (r := l6) 0 rfl rfl ht hm rfl ap_22 rfl rfl rfl (hm.fact (φ := IntsAt (some A) c m s) 0 rfl) el6 ?_
    intro A3 c4 m5 a ht w hm
    refine wpl rfl rfl ht (ev_assign ht rfl rfl) ?_
    intro a ht
    refine wpList_nil ?_
    refine then_normal ?_
    refine wp_ret ?_
    have hres := ht.res (P := Try.prog) (w := w) (rs := [.tmp 2]) (vs := [.slice A3 m5 c4]) (.tmp rfl .nil)
    obtain rfl := Option.some.inj H
    exact leave ht rfl hres ⟨A3, c4, m5, rfl, ((hm.pick [0] rfl (by decide)).pickφ [] rfl).post fun _ h => h⟩

end Go.Proofs.Ytfbdcidedjocdaa.G
