/- What each Go function computes, as a Lean function, and the proof that it does: written by a program of this session (wip/gen), part 3. -/
import Derived.Test.YtocjhmeekecdiaaGFnExactFreeChanges2
namespace Go.Proofs.Ytocjhmeekecdiaa.G
open Go Go.RowKit Go.Proofs.Ytocjhmeekecdiaa.K
set_option linter.unusedVariables false
set_option linter.unusedSimpArgs false

/-! ### spec_FreeChanges: function 20 (loop.example/g01362/spec.FreeChanges) -/
mutual
def spec_FreeChanges.l0 : Nat → Col → List Int → List (List Int) → Int → Option (List (List Int) × Int)
  | 0, _, _, _, _ => none
  | q6 + 1, x, sizes, ls0_4, xs0_6 => if xs0_6 < x.p then (spec_FreeChanges.l1 q6 x sizes xs0_6 ls0_4 (w64 (xs0_6 + 1))) else (some (ls0_4, 0))
def spec_FreeChanges.l1 : Nat → Col → List Int → Int → List (List Int) → Int → Option (List (List Int) × Int)
  | 0, _, _, _, _, _ => none
  | q8 + 1, x, sizes, xs0_6, ls1_4, xs1_6 => if xs1_6 < x.p then (spec_FreeChanges.l2 q8 x sizes xs0_6 xs1_6 ls1_4 0) else (spec_FreeChanges.l0 q8 x sizes ls1_4 (w64 (xs0_6 + 1)))
def spec_FreeChanges.l2 : Nat → Col → List Int → Int → Int → List (List Int) → Int → Option (List (List Int) × Int)
  | 0, _, _, _, _, _, _ => none
  | q10 + 1, x, sizes, xs0_6, xs1_6, ls2_4, xs2_6 => if xs2_6 < x.k then ((spec_l01At.f x xs0_6 xs1_6).bind fun t12 => if xs2_6 = t12 then (spec_FreeChanges.l2 q10 x sizes xs0_6 xs1_6 ls2_4 (w64 (xs2_6 + 1))) else ((getI sizes xs2_6).bind fun t14 => if t14 < 3 then ((getI sizes xs2_6).bind fun t16 => if t16 > 0 then (spec_FreeChanges.l2 q10 x sizes xs0_6 xs1_6 ls2_4 (w64 (xs2_6 + 1))) else ((getI sizes xs2_6).bind fun t18 => (spec_l01Around.f q10 x xs0_6 xs2_6).bind fun t19 => (spec_l01Around.f q10 x xs1_6 xs2_6).bind fun t20 => (spec_l03Clique.f q10 x xs2_6 (bitop .and .i64 t19 t20) (w64 (t18 - 2))).bind fun t21 => if t21 = true then (spec_FreeChanges.l2 q10 x sizes xs0_6 xs1_6 ls2_4 (w64 (xs2_6 + 1))) else ((concatR ls2_4 ([[xs0_6, xs1_6, xs2_6]])).bind fun l28 => spec_FreeChanges.l2 q10 x sizes xs0_6 xs1_6 l28 (w64 (xs2_6 + 1))))) else ((getI sizes xs2_6).bind fun t29 => (spec_l01Around.f q10 x xs0_6 xs2_6).bind fun t30 => (spec_l01Around.f q10 x xs1_6 xs2_6).bind fun t31 => (spec_l03Clique.f q10 x xs2_6 (bitop .and .i64 t30 t31) (w64 (t29 - 2))).bind fun t32 => if t32 = true then (spec_FreeChanges.l2 q10 x sizes xs0_6 xs1_6 ls2_4 (w64 (xs2_6 + 1))) else ((concatR ls2_4 ([[xs0_6, xs1_6, xs2_6]])).bind fun l39 => spec_FreeChanges.l2 q10 x sizes xs0_6 xs1_6 l39 (w64 (xs2_6 + 1)))))) else (spec_FreeChanges.l1 q10 x sizes xs0_6 ls2_4 (w64 (xs1_6 + 1)))
end
def spec_FreeChanges.f (k : Nat) (x : Col) (sizes : List Int) : Option (List (List Int) × Int) := (spec_l05Given.f k x sizes).bind fun t2 => if t2 ≠ 0 then (some (([] : List (List Int)), t2)) else (spec_FreeChanges.l0 k x sizes ([] : List (List Int)) 0)
set_option maxRecDepth 100000 in
set_option maxHeartbeats 1000000 in
theorem spec_FreeChanges.calls (k : Nat) (X : List Nat) (w0 : World) (A : Option Addr) (c : Nat) (m : Nat) (x : Col) (sizes : List Int) (r : List (List Int) × Int)
    (hp : Pre X w0 [] [IntsAt A c m sizes]) (H : spec_FreeChanges.f k x sizes = some r) :
    Calls Try.prog 20 [.agg (Col.cells x).toArray, .slice A m c].toArray w0 (Ret fun v w => ∃ (A_0 : Option Addr) (c_0 : Nat) (n_0 : Nat) (vs_0 : List Value), v = .tuple [.slice A_0 n_0 c_0, .int .i64 r.2].toArray ∧ Post X (fps []) w0 [.vec A_0 c_0 25 1 n_0 vs_0] [AllInts vs_0 r.1] w) := by
  unfold spec_FreeChanges.f at H
  refine enterM (n := 85) hp Try.func20 rfl rfl (Nat.le_of_ble_eq_true rfl) fun a w ht hm => ?_
  refine wp_seq ?_
  refine wpr ?_
  refine wpl_box rfl rfl ht hm rfl rfl rfl ?_
  intro b1 a ht w hm
  refine wpl rfl rfl ht (ev_assign ht rfl rfl) ?_
  intro a ht
  refine wpl rfl rfl ht (ev_assign ht rfl rfl) ?_
  intro a ht
  refine wpList_nil ?_
  refine then_normal ?_
  refine wp_seq ?_
  refine wp_seq ?_
  refine wpr ?_
  refine wpl rfl rfl ht (ev_load_agg ht rfl rfl (ag_28.trans (by first | rw [Col.length_cells] | rfl)) (hm.blk_all 0 rfl)) ?_
  intro a ht
  refine wpl rfl rfl ht (ev_move ht rfl rfl) ?_
  intro a ht
  obtain ⟨t2, et2, H⟩ := bind_get H
  have hcall := spec_l05Given.calls k _ _ A c m x sizes _ ((fun (hq : Ms _ _ _ ([] ++ [.blk b1 28 (Col.cells x)]) _ _) => hq.lend (φp := [IntsAt A c m sizes]) (allRO_cons (hq.lendFact 0 rfl) (allRO_nil))) (hm.pick (own' := [] ++ [.blk b1 28 (Col.cells x)]) [0] rfl (by decide))) et2
  refine wpl_call _ rfl rfl ht rfl rfl rfl rfl can_44 hcall ?_
  clear hcall
  rintro _ w ⟨rfl, hpost⟩ a ht
  replace hm := (hm.pick (own' := [] ++ [.blk b1 28 (Col.cells x)]) [0] rfl (by decide)).backL hpost
  clear hpost
  refine wpl rfl rfl ht (ev_assign ht rfl rfl) ?_
  intro a ht
  refine wpList_nil ?_
  refine then_normal ?_
  refine wp_seq ?_
  refine wpr ?_
  refine wpl rfl rfl ht (ev_move ht rfl rfl) ?_
  intro a ht
  refine wpl rfl rfl ht (ev_cmp ht rfl rfl rfl rfl) ?_
  intro a ht
  refine wpList_nil ?_
  refine then_normal ?_
  by_cases h3 : t2 ≠ 0
  · replace H := ite_yes h3 H
    refine wpc_yes ht rfl (decide_eq_true h3) ?_
    refine wp_seq ?_
    refine wpr ?_
    refine wpl rfl rfl ht (ev_move ht rfl rfl) ?_
    intro a ht
    refine wpl rfl rfl ht (ev_assign ht rfl rfl) ?_
    intro a ht
    refine wpl rfl rfl ht (ev_assign ht rfl rfl) ?_
    intro a ht
    refine wpList_nil ?_
    refine then_normal ?_
    refine wp_ret ?_
    refine then_ret ?_
    have hres := ht.res (P := Try.prog) (w := w) (rs := [.tmp 4, .tmp 5]) (vs := [.slice none 0 0, .int .i64 t2]) (.tmp rfl (.tmp rfl .nil))
    replace hm : Ms _ _ _ _ (AllInts ([]) ([] : List (List Int)) :: _) w := hm.addφ allInts_nil
    replace hm : Ms _ _ _ (.vec none 0 25 1 0 ([]) :: _) _ w := hm.nilVec none 25 1
    obtain rfl := Option.some.inj H
    exact leave ht rfl hres ⟨none, 0, 0, [], rfl, ((hm.pick [0] rfl (by decide)).pickφ [0] rfl).post fun _ h => h⟩
  · replace H := ite_no h3 H
    refine wpc_no ht rfl (decide_eq_false h3) ?_
    refine wp_skip ?_
    refine then_normal ?_
    refine wp_seq ?_
    refine wpr ?_
    replace hm : Ms _ _ _ _ (AllInts ([]) ([] : List (List Int)) :: _) w := hm.addφ (allInts_nil)
    refine wpl_buildSlice (vs := []) rfl rfl ht hm rfl und_38 zo_25 sz1_25 (by decide) rfl rfl rfl ?_
    intro A5 a ht w hm
    refine wpl rfl rfl ht (ev_assign ht rfl rfl) ?_
    intro a ht
    refine wpList_nil ?_
    refine then_normal ?_
    refine wp_seq ?_
    refine wp_seq ?_
    refine wpr ?_
    refine wpl rfl rfl ht (ev_assign ht rfl rfl) ?_
    intro a ht
    refine wpList_nil ?_
    refine then_normal ?_
    refine wp_block ?_
    refine wpLoop (fun q a w => ∃ (ls0_4 : List (List Int)) (xs0_6 : Int) (As0_1 : Option Addr) (cs0_2 : Nat) (ms0_3 : Nat) (vss0_5 : List Value), spec_FreeChanges.l0 q x sizes ls0_4 xs0_6 = some r ∧ q ≤ k ∧ Tm 85 [(1, .slice A m c), (2, .pointer (some ⟨b1, 0, none⟩)), (4, .slice none 0 0), (5, .int .i64 0), (7, .slice As0_1 ms0_3 cs0_2), (8, .int .i64 xs0_6)] a ∧ Ms X (fps []) w0 [.vec As0_1 cs0_2 25 1 ms0_3 vss0_5, .blk b1 28 (Col.cells x)] [IntsAt A c m sizes, AllInts vss0_5 ls0_4] w) (k0 := k) ⟨([] : List (List Int)), 0, A5, 0, 0, ([]), H, Nat.le_refl _, ht.sub ⟨rfl, rfl, rfl, rfl, rfl, rfl, trivial⟩, (hm.pick [0, 1] rfl (by decide)).pickφ [1, 0] rfl⟩ ?_
    clear H ht hm
    intro q6 a w hJ
    obtain ⟨ls0_4, xs0_6, As0_1, cs0_2, ms0_3, vss0_5, H, hqq6, ht, hm⟩ := hJ
    cases q6 with
    | zero => cases H
    | succ q6 =>
    rw [spec_FreeChanges.l0] at H
    refine wp_seq ?_
    refine wp_seq ?_
    refine wpr ?_
    refine wpl rfl rfl ht (ev_move ht rfl rfl) ?_
    intro a ht
    refine wpl rfl rfl ht (ev_fieldAddr ht rfl rfl fo_28_0) ?_
    intro a ht
    refine wpl rfl rfl ht (ev_load ht rfl rfl sc_2 (hm.blk_cell 1 rfl rfl)) ?_
    intro a ht
    refine wpl rfl rfl ht (ev_cmp ht rfl rfl rfl rfl) ?_
    intro a ht
    refine wpList_nil ?_
    refine then_normal ?_
    by_cases h7 : xs0_6 < x.p
    · replace H := ite_yes h7 H
      refine wpc_yes ht rfl (decide_eq_true h7) ?_
      refine wp_skip ?_
      refine then_normal ?_
      refine wp_seq ?_
      refine wp_block ?_
      refine wp_seq ?_
      refine wpr ?_
      refine wpl rfl rfl ht (ev_move ht rfl rfl) ?_
      intro a ht
      refine wpl rfl rfl ht (ev_arith ht rfl rfl rfl rfl) ?_
      intro a ht
      refine wpl rfl rfl ht (ev_assign ht rfl rfl) ?_
      intro a ht
      refine wpList_nil ?_
      refine then_normal ?_
      refine wp_block ?_
      refine wpLoop (fun q a w => ∃ (ls1_4 : List (List Int)) (xs1_6 : Int) (As1_1 : Option Addr) (cs1_2 : Nat) (ms1_3 : Nat) (vss1_5 : List Value), spec_FreeChanges.l1 q x sizes xs0_6 ls1_4 xs1_6 = some r ∧ q ≤ q6 ∧ Tm 85 [(1, .slice A m c), (2, .pointer (some ⟨b1, 0, none⟩)), (4, .slice none 0 0), (5, .int .i64 0), (7, .slice As1_1 ms1_3 cs1_2), (8, .int .i64 xs0_6), (18, .int .i64 xs0_6), (19, .pointer (some ⟨b1, 0 + 0, none⟩)), (20, .int .i64 x.p), (21, .bool (decide (xs0_6 < x.p))), (24, .int .i64 xs0_6), (25, .int .i64 (w64 (xs0_6 + 1))), (9, .int .i64 xs1_6)] a ∧ Ms X (fps []) w0 [.vec As1_1 cs1_2 25 1 ms1_3 vss1_5, .blk b1 28 (Col.cells x)] [IntsAt A c m sizes, AllInts vss1_5 ls1_4] w) (k0 := q6) ⟨ls0_4, (w64 (xs0_6 + 1)), As0_1, cs0_2, ms0_3, vss0_5, H, Nat.le_refl _, ht.sub ⟨rfl, rfl, rfl, rfl, rfl, rfl, rfl, rfl, rfl, rfl, rfl, rfl, rfl, trivial⟩, (hm.pick [0, 1] rfl (by decide)).pickφ [0, 1] rfl⟩ ?_
      clear H ht hm
      intro q8 a w hJ
      obtain ⟨ls1_4, xs1_6, As1_1, cs1_2, ms1_3, vss1_5, H, hqq8, ht, hm⟩ := hJ
      cases q8 with
      | zero => cases H
      | succ q8 =>
      rw [spec_FreeChanges.l1] at H
      refine wp_seq ?_
      refine wp_seq ?_
      refine wpr ?_
      refine wpl rfl rfl ht (ev_move ht rfl rfl) ?_
      intro a ht
      refine wpl rfl rfl ht (ev_fieldAddr ht rfl rfl fo_28_0) ?_
      intro a ht
      refine wpl rfl rfl ht (ev_load ht rfl rfl sc_2 (hm.blk_cell 1 rfl rfl)) ?_
      intro a ht
      refine wpl rfl rfl ht (ev_cmp ht rfl rfl rfl rfl) ?_
      intro a ht
      refine wpList_nil ?_
      refine then_normal ?_
      by_cases h9 : xs1_6 < x.p
      · replace H := ite_yes h9 H
        refine wpc_yes ht rfl (decide_eq_true h9) ?_
        refine wp_skip ?_
        refine then_normal ?_
        refine wp_seq ?_
        refine wp_block ?_
        refine wp_seq ?_
        refine wpr ?_
        refine wpl rfl rfl ht (ev_assign ht rfl rfl) ?_
        intro a ht
        refine wpList_nil ?_
        refine then_normal ?_
        refine wp_block ?_
        refine wpLoop (fun q a w => ∃ (ls2_4 : List (List Int)) (xs2_6 : Int) (As2_1 : Option Addr) (cs2_2 : Nat) (ms2_3 : Nat) (vss2_5 : List Value), spec_FreeChanges.l2 q x sizes xs0_6 xs1_6 ls2_4 xs2_6 = some r ∧ q ≤ q8 ∧ Tm 85 [(1, .slice A m c), (2, .pointer (some ⟨b1, 0, none⟩)), (4, .slice none 0 0), (5, .int .i64 0), (7, .slice As2_1 ms2_3 cs2_2), (8, .int .i64 xs0_6), (9, .int .i64 xs1_6), (18, .int .i64 xs0_6), (19, .pointer (some ⟨b1, 0 + 0, none⟩)), (20, .int .i64 x.p), (21, .bool (decide (xs0_6 < x.p))), (24, .int .i64 xs0_6), (25, .int .i64 (w64 (xs0_6 + 1))), (26, .int .i64 xs1_6), (27, .pointer (some ⟨b1, 0 + 0, none⟩)), (28, .int .i64 x.p), (29, .bool (decide (xs1_6 < x.p))), (10, .int .i64 xs2_6)] a ∧ Ms X (fps []) w0 [.vec As2_1 cs2_2 25 1 ms2_3 vss2_5, .blk b1 28 (Col.cells x)] [IntsAt A c m sizes, AllInts vss2_5 ls2_4] w) (k0 := q8) ⟨ls1_4, 0, As1_1, cs1_2, ms1_3, vss1_5, H, Nat.le_refl _, ht.sub ⟨rfl, rfl, rfl, rfl, rfl, rfl, rfl, rfl, rfl, rfl, rfl, rfl, rfl, rfl, rfl, rfl, rfl, rfl, trivial⟩, (hm.pick [0, 1] rfl (by decide)).pickφ [0, 1] rfl⟩ ?_
        clear H ht hm
        intro q10 a w hJ
        obtain ⟨ls2_4, xs2_6, As2_1, cs2_2, ms2_3, vss2_5, H, hqq10, ht, hm⟩ := hJ
        cases q10 with
        | zero => cases H
        | succ q10 =>
        rw [spec_FreeChanges.l2] at H
        refine wp_seq ?_
        refine wp_seq ?_
        refine wpr ?_
        refine wpl rfl rfl ht (ev_move ht rfl rfl) ?_
        intro a ht
        refine wpl rfl rfl ht (ev_fieldAddr ht rfl rfl fo_28_1) ?_
        intro a ht
        refine wpl rfl rfl ht (ev_load ht rfl rfl sc_2 (hm.blk_cell 1 rfl rfl)) ?_
        intro a ht
        refine wpl rfl rfl ht (ev_cmp ht rfl rfl rfl rfl) ?_
        intro a ht
        refine wpList_nil ?_
        refine then_normal ?_
        by_cases h11 : xs2_6 < x.k
        · replace H := ite_yes h11 H
          refine wpc_yes ht rfl (decide_eq_true h11) ?_
          refine wp_skip ?_
          refine then_normal ?_
          refine wp_seq ?_
          refine wp_block ?_
          refine wp_seq ?_
          refine wp_seq ?_
          refine wph_begin (fun w => Ms X (fps []) w0 [.vec As2_1 cs2_2 25 1 ms2_3 vss2_5, .blk b1 28 (Col.cells x)] [IntsAt A c m sizes, AllInts vss2_5 ls2_4] w) mixed ?_
          replace hm := hm.drew
          have hS : Ms X (fps []) w0 [.vec As2_1 cs2_2 25 1 ms2_3 vss2_5, .blk b1 28 (Col.cells x)] [IntsAt A c m sizes, AllInts vss2_5 ls2_4] w.drew := (hm.pick [0, 1] rfl (by decide)).pickφ [0, 1] rfl
          generalize w.drew = w at hm hS ⊢
          refine wph_take (i := 0) rfl (by kernel_rfl) (by kernel_rfl) (by kernel_rfl) (fun _ _ _ h => h) rfl ht hS (wanted_plain rfl) (fun w hm => ev_move ht rfl rfl) ?_
          intro a ht
          refine wph_take (i := 1) rfl (by kernel_rfl) (by kernel_rfl) (by kernel_rfl) (fun _ _ _ h => h) rfl ht hS (wanted_plain rfl) (fun w hm => ev_load_agg ht rfl rfl (ag_28.trans (by first | rw [Col.length_cells] | rfl)) (hm.blk_all 1 rfl)) ?_
          intro a ht
          refine wph_take (i := 2) rfl (by kernel_rfl) (by kernel_rfl) (by kernel_rfl) (fun _ _ _ h => h) rfl ht hS (wanted_plain rfl) (fun w hm => ev_move ht rfl rfl) ?_
          intro a ht
          refine wph_take (i := 3) rfl (by kernel_rfl) (by kernel_rfl) (by kernel_rfl) (fun _ _ _ h => h) rfl ht hS (wanted_plain rfl) (fun w hm => ev_move ht rfl rfl) ?_
          intro a ht
          refine wph_one (i := 4) (by kernel_rfl) (wph_step rfl ?_)
          obtain ⟨t12, et12, H⟩ := bind_get H
          have hcall := spec_l01At.calls _ _ x xs0_6 xs1_6 _ ((fun (hq : Ms _ _ _ ([] ++ [.vec As2_1 cs2_2 25 1 ms2_3 vss2_5, .blk b1 28 (Col.cells x)]) _ _) => hq.lend (φp := []) (allRO_nil)) (hm.pick (own' := [] ++ [.vec As2_1 cs2_2 25 1 ms2_3 vss2_5, .blk b1 28 (Col.cells x)]) [0, 1] rfl (by decide))) et12
          refine wpl_call _ rfl rfl ht rfl rfl rfl rfl can_45 hcall ?_
          clear hcall
          rintro _ w ⟨rfl, hpost⟩ a ht
          replace hm := (hm.pick (own' := [] ++ [.vec As2_1 cs2_2 25 1 ms2_3 vss2_5, .blk b1 28 (Col.cells x)]) [0, 1] rfl (by decide)).backL hpost
          clear hpost
          have hS : Ms X (fps []) w0 [.vec As2_1 cs2_2 25 1 ms2_3 vss2_5, .blk b1 28 (Col.cells x)] [IntsAt A c m sizes, AllInts vss2_5 ls2_4] w := (hm.pick [0, 1] rfl (by decide)).pickφ [0, 1] rfl
          refine wpList_nil (qn ⟨hS, ?_⟩)
          refine wph_take (i := 5) rfl (by kernel_rfl) (by kernel_rfl) (by kernel_rfl) (fun _ _ _ h => h) rfl ht hS (wanted_plain rfl) (fun w hm => ev_cmp ht rfl rfl rfl rfl) ?_
          intro a ht
          refine wph_take (i := 6) rfl (by kernel_rfl) (by kernel_rfl) (by kernel_rfl) (fun _ _ _ h => h) rfl ht hS (wanted_plain rfl) (fun w hm => ev_move ht rfl rfl) ?_
          intro a ht
          by_cases h13 : xs2_6 = t12
          · replace H := ite_yes h13 H
            refine wph_pass (i := 7) rfl (by kernel_rfl) (by kernel_rfl) (by kernel_rfl) (fun _ _ _ h => h) rfl ht hS (wanted_no rfl ht rfl (by rw [(decide_eq_true h13)]; decide)) ?_
            intro a ht
            refine wph_pass (i := 8) rfl (by kernel_rfl) (by kernel_rfl) (by kernel_rfl) (fun _ _ _ h => h) rfl ht hS (wanted_no rfl ht rfl (by rw [(decide_eq_true h13)]; decide)) ?_
            intro a ht
            refine wph_pass (i := 9) rfl (by kernel_rfl) (by kernel_rfl) (by kernel_rfl) (fun _ _ _ h => h) rfl ht hS (wanted_no rfl ht rfl (by rw [(decide_eq_true h13)]; decide)) ?_
            intro a ht
            refine wph_pass (i := 10) rfl (by kernel_rfl) (by kernel_rfl) (by kernel_rfl) (fun _ _ _ h => h) rfl ht hS (wanted_no rfl ht rfl (by rw [(decide_eq_true h13)]; decide)) ?_
            intro a ht
            refine wph_pass (i := 11) rfl (by kernel_rfl) (by kernel_rfl) (by kernel_rfl) (fun _ _ _ h => h) rfl ht hS (wanted_no rfl ht rfl (by rw [(decide_eq_true h13)]; decide)) ?_
            intro a ht
            refine wph_pass (i := 12) rfl (by kernel_rfl) (by kernel_rfl) (by kernel_rfl) (fun _ _ _ h => h) rfl ht hS (wanted_no rfl ht rfl (by rw [(decide_eq_true h13)]; decide)) ?_
            intro a ht
            refine wph_pass (i := 13) rfl (by kernel_rfl) (by kernel_rfl) (by kernel_rfl) (fun _ _ _ h => h) rfl ht hS (wanted_none rfl ht rfl) ?_
            intro a ht
            refine wph_pass (i := 14) rfl (by kernel_rfl) (by kernel_rfl) (by kernel_rfl) (fun _ _ _ h => h) rfl ht hS (wanted_none rfl ht rfl) ?_
            intro a ht
            refine wph_pass (i := 15) rfl (by kernel_rfl) (by kernel_rfl) (by kernel_rfl) (fun _ _ _ h => h) rfl ht hS (wanted_none rfl ht rfl) ?_
            intro a ht
            refine wph_pass (i := 16) rfl (by kernel_rfl) (by kernel_rfl) (by kernel_rfl) (fun _ _ _ h => h) rfl ht hS (wanted_none rfl ht rfl) ?_
            intro a ht
            refine wph_pass (i := 17) rfl (by kernel_rfl) (by kernel_rfl) (by kernel_rfl) (fun _ _ _ h => h) rfl ht hS (wanted_none rfl ht rfl) ?_
            intro a ht
            refine wph_pass (i := 18) rfl (by kernel_rfl) (by kernel_rfl) (by kernel_rfl) (fun _ _ _ h => h) rfl ht hS (wanted_no rfl ht rfl (by rw [(decide_eq_true h13)]; decide)) ?_
            intro a ht
            refine wph_take (i := 19) rfl (by kernel_rfl) (by kernel_rfl) (by kernel_rfl) (fun _ _ _ h => h) rfl ht hS (wanted_plain rfl) (fun w hm => ev_pick_yes ht rfl rfl (decide_eq_true h13) rfl) ?_
            intro a ht
            refine wph_take (i := 20) rfl (by kernel_rfl) (by kernel_rfl) (by kernel_rfl) (fun _ _ _ h => h) rfl ht hS (wanted_plain rfl) (fun w hm => ev_move ht rfl rfl) ?_
            intro a ht
            refine wph_pass (i := 21) rfl (by kernel_rfl) (by kernel_rfl) (by kernel_rfl) (fun _ _ _ h => h) rfl ht hS (wanted_no rfl ht rfl (by decide)) ?_
            intro a ht
            refine wph_pass (i := 22) rfl (by kernel_rfl) (by kernel_rfl) (by kernel_rfl) (fun _ _ _ h => h) rfl ht hS (wanted_no rfl ht rfl (by decide)) ?_
            intro a ht
            refine wph_pass (i := 23) rfl (by kernel_rfl) (by kernel_rfl) (by kernel_rfl) (fun _ _ _ h => h) rfl ht hS (wanted_no rfl ht rfl (by decide)) ?_
            intro a ht
            refine wph_pass (i := 24) rfl (by kernel_rfl) (by kernel_rfl) (by kernel_rfl) (fun _ _ _ h => h) rfl ht hS (wanted_no rfl ht rfl (by decide)) ?_
            intro a ht
            refine wph_pass (i := 25) rfl (by kernel_rfl) (by kernel_rfl) (by kernel_rfl) (fun _ _ _ h => h) rfl ht hS (wanted_no rfl ht rfl (by decide)) ?_
            intro a ht
            refine wph_pass (i := 26) rfl (by kernel_rfl) (by kernel_rfl) (by kernel_rfl) (fun _ _ _ h => h) rfl ht hS (wanted_no rfl ht rfl (by decide)) ?_
            intro a ht
            refine wph_pass (i := 27) rfl (by kernel_rfl) (by kernel_rfl) (by kernel_rfl) (fun _ _ _ h => h) rfl ht hS (wanted_no rfl ht rfl (by decide)) ?_
            intro a ht
            refine wph_pass (i := 28) rfl (by kernel_rfl) (by kernel_rfl) (by kernel_rfl) (fun _ _ _ h => h) rfl ht hS (wanted_no rfl ht rfl (by decide)) ?_
            intro a ht
            refine wph_pass (i := 29) rfl (by kernel_rfl) (by kernel_rfl) (by kernel_rfl) (fun _ _ _ h => h) rfl ht hS (wanted_no rfl ht rfl (by decide)) ?_
            intro a ht
            refine wph_pass (i := 30) rfl (by kernel_rfl) (by kernel_rfl) (by kernel_rfl) (fun _ _ _ h => h) rfl ht hS (wanted_no rfl ht rfl (by decide)) ?_
            intro a ht
            refine wph_pass (i := 31) rfl (by kernel_rfl) (by kernel_rfl) (by kernel_rfl) (fun _ _ _ h => h) rfl ht hS (wanted_no rfl ht rfl (by decide)) ?_
            intro a ht
            refine wph_pass (i := 32) rfl (by kernel_rfl) (by kernel_rfl) (by kernel_rfl) (fun _ _ _ h => h) rfl ht hS (wanted_no rfl ht rfl (by decide)) ?_
            intro a ht
            refine wph_pass (i := 33) rfl (by kernel_rfl) (by kernel_rfl) (by kernel_rfl) (fun _ _ _ h => h) rfl ht hS (wanted_no rfl ht rfl (by decide)) ?_
            intro a ht
            refine wph_pass (i := 34) rfl (by kernel_rfl) (by kernel_rfl) (by kernel_rfl) (fun _ _ _ h => h) rfl ht hS (wanted_no rfl ht rfl (by decide)) ?_
            intro a ht
            refine wph_pass (i := 35) rfl (by kernel_rfl) (by kernel_rfl) (by kernel_rfl) (fun _ _ _ h => h) rfl ht hS (wanted_no rfl ht rfl (by decide)) ?_
            intro a ht
            refine wph_pass (i := 36) rfl (by kernel_rfl) (by kernel_rfl) (by kernel_rfl) (fun _ _ _ h => h) rfl ht hS (wanted_no rfl ht rfl (by decide)) ?_
            intro a ht
            refine wph_pass (i := 37) rfl (by kernel_rfl) (by kernel_rfl) (by kernel_rfl) (fun _ _ _ h => h) rfl ht hS (wanted_no rfl ht rfl (by decide)) ?_
            intro a ht
            refine wph_take (i := 38) rfl (by kernel_rfl) (by kernel_rfl) (by kernel_rfl) (fun _ _ _ h => h) rfl ht hS (wanted_plain rfl) (fun w hm => ev_pick_yes ht rfl rfl rfl rfl) ?_
            intro a ht
            refine wph_done (by kernel_rfl) ?_
            refine then_normal ?_
            refine wpc_yes ht rfl rfl ?_
            refine wp_exit ?_
            refine then_exit ?_
            refine blk_hit ?_
            refine then_normal ?_
            refine wpr ?_
            refine wpl rfl rfl ht (ev_move ht rfl rfl) ?_
            intro a ht
            refine wpl rfl rfl ht (ev_arith ht rfl rfl rfl rfl) ?_
            intro a ht
            refine wpl rfl rfl ht (ev_assign ht rfl rfl) ?_
            intro a ht
            refine wpList_nil ?_
            exact then_normal ⟨q10, by omega, ls2_4, (w64 (xs2_6 + 1)), As2_1, cs2_2, ms2_3, vss2_5, H, by omega, ht.sub ⟨rfl, rfl, rfl, rfl, rfl, rfl, rfl, rfl, rfl, rfl, rfl, rfl, rfl, rfl, rfl, rfl, rfl, rfl, trivial⟩, (hm.pick [0, 1] rfl (by decide)).pickφ [0, 1] rfl⟩
          · replace H := ite_no h13 H
            refine wph_take (i := 7) rfl (by kernel_rfl) (by kernel_rfl) (by kernel_rfl) (fun _ _ _ h => h) rfl ht hS (wanted_yes rfl ht rfl ((decide_eq_false h13))) (fun w hm => ev_move ht rfl rfl) ?_
            intro a ht
            refine wph_take (i := 8) rfl (by kernel_rfl) (by kernel_rfl) (by kernel_rfl) (fun _ _ _ h => h) rfl ht hS (wanted_yes rfl ht rfl ((decide_eq_false h13))) (fun w hm => ev_move ht rfl rfl) ?_
            intro a ht
            obtain ⟨t14, et14, H⟩ := bind_get H
            refine wph_take (i := 9) rfl (by kernel_rfl) (by kernel_rfl) (by kernel_rfl) (fun _ _ _ h => h) rfl ht hS (wanted_yes rfl ht rfl ((decide_eq_false h13))) (fun w hm => ev_index_ints ht rfl rfl rfl so_25 (hm.fact (φ := IntsAt A c m sizes) 0 rfl) et14) ?_
            intro a ht
            refine wph_take (i := 10) rfl (by kernel_rfl) (by kernel_rfl) (by kernel_rfl) (fun _ _ _ h => h) rfl ht hS (wanted_yes rfl ht rfl ((decide_eq_false h13))) (fun w hm => ev_load ht rfl rfl sc_2 (RowAt.cell (hm.fact (φ := IntsAt A c m sizes) 0 rfl) (ints_get et14) rfl)) ?_
            intro a ht
            refine wph_take (i := 11) rfl (by kernel_rfl) (by kernel_rfl) (by kernel_rfl) (fun _ _ _ h => h) rfl ht hS (wanted_yes rfl ht rfl ((decide_eq_false h13))) (fun w hm => ev_cmp ht rfl rfl rfl rfl) ?_
            intro a ht
            refine wph_take (i := 12) rfl (by kernel_rfl) (by kernel_rfl) (by kernel_rfl) (fun _ _ _ h => h) rfl ht hS (wanted_yes rfl ht rfl ((decide_eq_false h13))) (fun w hm => ev_move ht rfl rfl) ?_
            intro a ht
            by_cases h15 : t14 < 3
            · replace H := ite_yes h15 H
              refine wph_take (i := 13) rfl (by kernel_rfl) (by kernel_rfl) (by kernel_rfl) (fun _ _ _ h => h) rfl ht hS (wanted_yes rfl ht rfl ((decide_eq_true h15))) (fun w hm => ev_move ht rfl rfl) ?_
              intro a ht
              refine wph_take (i := 14) rfl (by kernel_rfl) (by kernel_rfl) (by kernel_rfl) (fun _ _ _ h => h) rfl ht hS (wanted_yes rfl ht rfl ((decide_eq_true h15))) (fun w hm => ev_move ht rfl rfl) ?_
              intro a ht
              obtain ⟨t16, et16, H⟩ := bind_get H
              refine wph_take (i := 15) rfl (by kernel_rfl) (by kernel_rfl) (by kernel_rfl) (fun _ _ _ h => h) rfl ht hS (wanted_yes rfl ht rfl ((decide_eq_true h15))) (fun w hm => ev_index_ints ht rfl rfl rfl so_25 (hm.fact (φ := IntsAt A c m sizes) 0 rfl) et16) ?_
              intro a ht
              refine wph_take (i := 16) rfl (by kernel_rfl) (by kernel_rfl) (by kernel_rfl) (fun _ _ _ h => h) rfl ht hS (wanted_yes rfl ht rfl ((decide_eq_true h15))) (fun w hm => ev_load ht rfl rfl sc_2 (RowAt.cell (hm.fact (φ := IntsAt A c m sizes) 0 rfl) (ints_get et16) rfl)) ?_
              intro a ht
              refine wph_take (i := 17) rfl (by kernel_rfl) (by kernel_rfl) (by kernel_rfl) (fun _ _ _ h => h) rfl ht hS (wanted_yes rfl ht rfl ((decide_eq_true h15))) (fun w hm => ev_cmp ht rfl rfl rfl rfl) ?_
              intro a ht
              refine wph_take (i := 18) rfl (by kernel_rfl) (by kernel_rfl) (by kernel_rfl) (fun _ _ _ h => h) rfl ht hS (wanted_yes rfl ht rfl ((decide_eq_false h13))) (fun w hm => ev_pick_yes ht rfl rfl (decide_eq_true h15) rfl) ?_
              intro a ht
              refine wph_take (i := 19) rfl (by kernel_rfl) (by kernel_rfl) (by kernel_rfl) (fun _ _ _ h => h) rfl ht hS (wanted_plain rfl) (fun w hm => ev_pick_no ht rfl rfl (decide_eq_false h13) rfl) ?_
              intro a ht
              refine wph_take (i := 20) rfl (by kernel_rfl) (by kernel_rfl) (by kernel_rfl) (fun _ _ _ h => h) rfl ht hS (wanted_plain rfl) (fun w hm => ev_move ht rfl rfl) ?_
              intro a ht
              by_cases h17 : t16 > 0
              · replace H := ite_yes h17 H
                refine wph_pass (i := 21) rfl (by kernel_rfl) (by kernel_rfl) (by kernel_rfl) (fun _ _ _ h => h) rfl ht hS (wanted_no rfl ht rfl (by rw [(decide_eq_true h17)]; decide)) ?_
                intro a ht
                refine wph_pass (i := 22) rfl (by kernel_rfl) (by kernel_rfl) (by kernel_rfl) (fun _ _ _ h => h) rfl ht hS (wanted_no rfl ht rfl (by rw [(decide_eq_true h17)]; decide)) ?_
                intro a ht
                refine wph_pass (i := 23) rfl (by kernel_rfl) (by kernel_rfl) (by kernel_rfl) (fun _ _ _ h => h) rfl ht hS (wanted_no rfl ht rfl (by rw [(decide_eq_true h17)]; decide)) ?_
                intro a ht
                refine wph_pass (i := 24) rfl (by kernel_rfl) (by kernel_rfl) (by kernel_rfl) (fun _ _ _ h => h) rfl ht hS (wanted_no rfl ht rfl (by rw [(decide_eq_true h17)]; decide)) ?_
                intro a ht
                refine wph_pass (i := 25) rfl (by kernel_rfl) (by kernel_rfl) (by kernel_rfl) (fun _ _ _ h => h) rfl ht hS (wanted_no rfl ht rfl (by rw [(decide_eq_true h17)]; decide)) ?_
                intro a ht
                refine wph_pass (i := 26) rfl (by kernel_rfl) (by kernel_rfl) (by kernel_rfl) (fun _ _ _ h => h) rfl ht hS (wanted_no rfl ht rfl (by rw [(decide_eq_true h17)]; decide)) ?_
                intro a ht
                refine wph_pass (i := 27) rfl (by kernel_rfl) (by kernel_rfl) (by kernel_rfl) (fun _ _ _ h => h) rfl ht hS (wanted_no rfl ht rfl (by rw [(decide_eq_true h17)]; decide)) ?_
                intro a ht
                refine wph_pass (i := 28) rfl (by kernel_rfl) (by kernel_rfl) (by kernel_rfl) (fun _ _ _ h => h) rfl ht hS (wanted_no rfl ht rfl (by rw [(decide_eq_true h17)]; decide)) ?_
                intro a ht
                refine wph_pass (i := 29) rfl (by kernel_rfl) (by kernel_rfl) (by kernel_rfl) (fun _ _ _ h => h) rfl ht hS (wanted_no rfl ht rfl (by rw [(decide_eq_true h17)]; decide)) ?_
                intro a ht
                refine wph_pass (i := 30) rfl (by kernel_rfl) (by kernel_rfl) (by kernel_rfl) (fun _ _ _ h => h) rfl ht hS (wanted_no rfl ht rfl (by rw [(decide_eq_true h17)]; decide)) ?_
                intro a ht
                refine wph_pass (i := 31) rfl (by kernel_rfl) (by kernel_rfl) (by kernel_rfl) (fun _ _ _ h => h) rfl ht hS (wanted_no rfl ht rfl (by rw [(decide_eq_true h17)]; decide)) ?_
                intro a ht
                refine wph_pass (i := 32) rfl (by kernel_rfl) (by kernel_rfl) (by kernel_rfl) (fun _ _ _ h => h) rfl ht hS (wanted_no rfl ht rfl (by rw [(decide_eq_true h17)]; decide)) ?_
                intro a ht
                refine wph_pass (i := 33) rfl (by kernel_rfl) (by kernel_rfl) (by kernel_rfl) (fun _ _ _ h => h) rfl ht hS (wanted_no rfl ht rfl (by rw [(decide_eq_true h17)]; decide)) ?_
                intro a ht
                refine wph_pass (i := 34) rfl (by kernel_rfl) (by kernel_rfl) (by kernel_rfl) (fun _ _ _ h => h) rfl ht hS (wanted_no rfl ht rfl (by rw [(decide_eq_true h17)]; decide)) ?_
                intro a ht
                refine wph_pass (i := 35) rfl (by kernel_rfl) (by kernel_rfl) (by kernel_rfl) (fun _ _ _ h => h) rfl ht hS (wanted_no rfl ht rfl (by rw [(decide_eq_true h17)]; decide)) ?_
                intro a ht
                refine wph_pass (i := 36) rfl (by kernel_rfl) (by kernel_rfl) (by kernel_rfl) (fun _ _ _ h => h) rfl ht hS (wanted_no rfl ht rfl (by rw [(decide_eq_true h17)]; decide)) ?_
                intro a ht
                refine wph_pass (i := 37) rfl (by kernel_rfl) (by kernel_rfl) (by kernel_rfl) (fun _ _ _ h => h) rfl ht hS (wanted_no rfl ht rfl (by rw [(decide_eq_true h17)]; decide)) ?_
                intro a ht
                refine wph_take (i := 38) rfl (by kernel_rfl) (by kernel_rfl) (by kernel_rfl) (fun _ _ _ h => h) rfl ht hS (wanted_plain rfl) (fun w hm => ev_pick_yes ht rfl rfl (decide_eq_true h17) rfl) ?_
                intro a ht
                refine wph_done (by kernel_rfl) ?_
                refine then_normal ?_
                refine wpc_yes ht rfl rfl ?_
                refine wp_exit ?_
                refine then_exit ?_
                refine blk_hit ?_
                refine then_normal ?_
                refine wpr ?_
                refine wpl rfl rfl ht (ev_move ht rfl rfl) ?_
                intro a ht
                refine wpl rfl rfl ht (ev_arith ht rfl rfl rfl rfl) ?_
                intro a ht
                refine wpl rfl rfl ht (ev_assign ht rfl rfl) ?_
                intro a ht
                refine wpList_nil ?_
                exact then_normal ⟨q10, by omega, ls2_4, (w64 (xs2_6 + 1)), As2_1, cs2_2, ms2_3, vss2_5, H, by omega, ht.sub ⟨rfl, rfl, rfl, rfl, rfl, rfl, rfl, rfl, rfl, rfl, rfl, rfl, rfl, rfl, rfl, rfl, rfl, rfl, trivial⟩, (hm.pick [0, 1] rfl (by decide)).pickφ [0, 1] rfl⟩
              · replace H := ite_no h17 H
                refine wph_take (i := 21) rfl (by kernel_rfl) (by kernel_rfl) (by kernel_rfl) (fun _ _ _ h => h) rfl ht hS (wanted_yes rfl ht rfl ((decide_eq_false h17))) (fun w hm => ev_load_agg ht rfl rfl (ag_28.trans (by first | rw [Col.length_cells] | rfl)) (hm.blk_all 1 rfl)) ?_
                intro a ht
                refine wph_take (i := 22) rfl (by kernel_rfl) (by kernel_rfl) (by kernel_rfl) (fun _ _ _ h => h) rfl ht hS (wanted_yes rfl ht rfl ((decide_eq_false h17))) (fun w hm => ev_move ht rfl rfl) ?_
                intro a ht
                refine wph_take (i := 23) rfl (by kernel_rfl) (by kernel_rfl) (by kernel_rfl) (fun _ _ _ h => h) rfl ht hS (wanted_yes rfl ht rfl ((decide_eq_false h17))) (fun w hm => ev_load_agg ht rfl rfl (ag_28.trans (by first | rw [Col.length_cells] | rfl)) (hm.blk_all 1 rfl)) ?_
                intro a ht
                refine wph_take (i := 24) rfl (by kernel_rfl) (by kernel_rfl) (by kernel_rfl) (fun _ _ _ h => h) rfl ht hS (wanted_yes rfl ht rfl ((decide_eq_false h17))) (fun w hm => ev_move ht rfl rfl) ?_
                intro a ht
                refine wph_take (i := 25) rfl (by kernel_rfl) (by kernel_rfl) (by kernel_rfl) (fun _ _ _ h => h) rfl ht hS (wanted_yes rfl ht rfl ((decide_eq_false h17))) (fun w hm => ev_move ht rfl rfl) ?_
                intro a ht
                refine wph_take (i := 27) rfl (by kernel_rfl) (by kernel_rfl) (by kernel_rfl) (fun _ _ _ h => h) rfl ht hS (wanted_yes rfl ht rfl ((decide_eq_false h17))) (fun w hm => ev_load_agg ht rfl rfl (ag_28.trans (by first | rw [Col.length_cells] | rfl)) (hm.blk_all 1 rfl)) ?_
                intro a ht
                refine wph_take (i := 28) rfl (by kernel_rfl) (by kernel_rfl) (by kernel_rfl) (fun _ _ _ h => h) rfl ht hS (wanted_yes rfl ht rfl ((decide_eq_false h17))) (fun w hm => ev_move ht rfl rfl) ?_
                intro a ht
                refine wph_take (i := 29) rfl (by kernel_rfl) (by kernel_rfl) (by kernel_rfl) (fun _ _ _ h => h) rfl ht hS (wanted_yes rfl ht rfl ((decide_eq_false h17))) (fun w hm => ev_move ht rfl rfl) ?_
                intro a ht
                refine wph_take (i := 32) rfl (by kernel_rfl) (by kernel_rfl) (by kernel_rfl) (fun _ _ _ h => h) rfl ht hS (wanted_yes rfl ht rfl ((decide_eq_false h17))) (fun w hm => ev_move ht rfl rfl) ?_
                intro a ht
                refine wph_take (i := 33) rfl (by kernel_rfl) (by kernel_rfl) (by kernel_rfl) (fun _ _ _ h => h) rfl ht hS (wanted_yes rfl ht rfl ((decide_eq_false h17))) (fun w hm => ev_move ht rfl rfl) ?_
                intro a ht
                obtain ⟨t18, et18, H⟩ := bind_get H
                refine wph_take (i := 34) rfl (by kernel_rfl) (by kernel_rfl) (by kernel_rfl) (fun _ _ _ h => h) rfl ht hS (wanted_yes rfl ht rfl ((decide_eq_false h17))) (fun w hm => ev_index_ints ht rfl rfl rfl so_25 (hm.fact (φ := IntsAt A c m sizes) 0 rfl) et18) ?_
                intro a ht
                refine wph_take (i := 35) rfl (by kernel_rfl) (by kernel_rfl) (by kernel_rfl) (fun _ _ _ h => h) rfl ht hS (wanted_yes rfl ht rfl ((decide_eq_false h17))) (fun w hm => ev_load ht rfl rfl sc_2 (RowAt.cell (hm.fact (φ := IntsAt A c m sizes) 0 rfl) (ints_get et18) rfl)) ?_
                intro a ht
                refine wph_take (i := 36) rfl (by kernel_rfl) (by kernel_rfl) (by kernel_rfl) (fun _ _ _ h => h) rfl ht hS (wanted_yes rfl ht rfl ((decide_eq_false h17))) (fun w hm => ev_arith ht rfl rfl rfl rfl) ?_
                intro a ht
                refine wph_one (i := 26) (by kernel_rfl) (wph_step rfl ?_)
                refine wpl_yes rfl ht rfl ((decide_eq_false h17)) ?_
                obtain ⟨t19, et19, H⟩ := bind_get H
                have hcall := spec_l01Around.calls q10 _ _ x xs0_6 xs2_6 _ ((fun (hq : Ms _ _ _ ([] ++ [.vec As2_1 cs2_2 25 1 ms2_3 vss2_5, .blk b1 28 (Col.cells x)]) _ _) => hq.lend (φp := []) (allRO_nil)) (hm.pick (own' := [] ++ [.vec As2_1 cs2_2 25 1 ms2_3 vss2_5, .blk b1 28 (Col.cells x)]) [0, 1] rfl (by decide))) et19
                refine wpl_call _ rfl rfl ht rfl rfl rfl rfl can_47 hcall ?_
                clear hcall
                rintro _ w ⟨rfl, hpost⟩ a ht
                replace hm := (hm.pick (own' := [] ++ [.vec As2_1 cs2_2 25 1 ms2_3 vss2_5, .blk b1 28 (Col.cells x)]) [0, 1] rfl (by decide)).backL hpost
                clear hpost
                have hS : Ms X (fps []) w0 [.vec As2_1 cs2_2 25 1 ms2_3 vss2_5, .blk b1 28 (Col.cells x)] [IntsAt A c m sizes, AllInts vss2_5 ls2_4] w := (hm.pick [0, 1] rfl (by decide)).pickφ [0, 1] rfl
                refine wpList_nil (qn ⟨hS, ?_⟩)
                refine wph_one (i := 30) (by kernel_rfl) (wph_step rfl ?_)
                refine wpl_yes rfl ht rfl ((decide_eq_false h17)) ?_
                obtain ⟨t20, et20, H⟩ := bind_get H
                have hcall := spec_l01Around.calls q10 _ _ x xs1_6 xs2_6 _ ((fun (hq : Ms _ _ _ ([] ++ [.vec As2_1 cs2_2 25 1 ms2_3 vss2_5, .blk b1 28 (Col.cells x)]) _ _) => hq.lend (φp := []) (allRO_nil)) (hm.pick (own' := [] ++ [.vec As2_1 cs2_2 25 1 ms2_3 vss2_5, .blk b1 28 (Col.cells x)]) [0, 1] rfl (by decide))) et20
                refine wpl_call _ rfl rfl ht rfl rfl rfl rfl can_47 hcall ?_
                clear hcall
                rintro _ w ⟨rfl, hpost⟩ a ht
                replace hm := (hm.pick (own' := [] ++ [.vec As2_1 cs2_2 25 1 ms2_3 vss2_5, .blk b1 28 (Col.cells x)]) [0, 1] rfl (by decide)).backL hpost
                clear hpost
                have hS : Ms X (fps []) w0 [.vec As2_1 cs2_2 25 1 ms2_3 vss2_5, .blk b1 28 (Col.cells x)] [IntsAt A c m sizes, AllInts vss2_5 ls2_4] w := (hm.pick [0, 1] rfl (by decide)).pickφ [0, 1] rfl
                refine wpList_nil (qn ⟨hS, ?_⟩)
                refine wph_take (i := 31) rfl (by kernel_rfl) (by kernel_rfl) (by kernel_rfl) (fun _ _ _ h => h) rfl ht hS (wanted_yes rfl ht rfl ((decide_eq_false h17))) (fun w hm => ev_bit ht rfl rfl rfl rfl) ?_
                intro a ht
                refine wph_one (i := 37) (by kernel_rfl) (wph_step rfl ?_)
                refine wpl_yes rfl ht rfl ((decide_eq_false h17)) ?_
                obtain ⟨t21, et21, H⟩ := bind_get H
                have hcall := spec_l03Clique.calls q10 _ _ x xs2_6 (bitop .and .i64 t19 t20) (w64 (t18 - 2)) _ ((fun (hq : Ms _ _ _ ([] ++ [.vec As2_1 cs2_2 25 1 ms2_3 vss2_5, .blk b1 28 (Col.cells x)]) _ _) => hq.lend (φp := []) (allRO_nil)) (hm.pick (own' := [] ++ [.vec As2_1 cs2_2 25 1 ms2_3 vss2_5, .blk b1 28 (Col.cells x)]) [0, 1] rfl (by decide))) et21
                refine wpl_call _ rfl rfl ht rfl rfl rfl rfl can_46 hcall ?_
                clear hcall
                rintro _ w ⟨rfl, hpost⟩ a ht
                replace hm := (hm.pick (own' := [] ++ [.vec As2_1 cs2_2 25 1 ms2_3 vss2_5, .blk b1 28 (Col.cells x)]) [0, 1] rfl (by decide)).backL hpost
                clear hpost
                have hS : Ms X (fps []) w0 [.vec As2_1 cs2_2 25 1 ms2_3 vss2_5, .blk b1 28 (Col.cells x)] [IntsAt A c m sizes, AllInts vss2_5 ls2_4] w := (hm.pick [0, 1] rfl (by decide)).pickφ [0, 1] rfl
                refine wpList_nil (qn ⟨hS, ?_⟩)
                refine wph_take (i := 38) rfl (by kernel_rfl) (by kernel_rfl) (by kernel_rfl) (fun _ _ _ h => h) rfl ht hS (wanted_plain rfl) (fun w hm => ev_pick_no ht rfl rfl (decide_eq_false h17) rfl) ?_
                intro a ht
                refine wph_done (by kernel_rfl) ?_
                refine then_normal ?_
                by_cases h22 : t21 = true
                · replace H := ite_yes h22 H
                  refine wpc_yes ht rfl h22 ?_
                  refine wp_exit ?_
                  refine then_exit ?_
                  refine blk_hit ?_
                  refine then_normal ?_
                  refine wpr ?_
                  refine wpl rfl rfl ht (ev_move ht rfl rfl) ?_
                  intro a ht
                  refine wpl rfl rfl ht (ev_arith ht rfl rfl rfl rfl) ?_
                  intro a ht
                  refine wpl rfl rfl ht (ev_assign ht rfl rfl) ?_
                  intro a ht
                  refine wpList_nil ?_
                  exact then_normal ⟨q10, by omega, ls2_4, (w64 (xs2_6 + 1)), As2_1, cs2_2, ms2_3, vss2_5, H, by omega, ht.sub ⟨rfl, rfl, rfl, rfl, rfl, rfl, rfl, rfl, rfl, rfl, rfl, rfl, rfl, rfl, rfl, rfl, rfl, rfl, trivial⟩, (hm.pick [0, 1] rfl (by decide)).pickφ [0, 1] rfl⟩
                · replace H := ite_no h22 H
                  refine wpc_no ht rfl (Bool.eq_false_iff.mpr h22) ?_
                  refine wp_skip ?_
                  refine then_normal ?_
                  refine wpr ?_
                  refine wpl rfl rfl ht (ev_move ht rfl rfl) ?_
                  intro a ht
                  refine wpl rfl rfl ht (ev_move ht rfl rfl) ?_
                  intro a ht
                  refine wpl rfl rfl ht (ev_move ht rfl rfl) ?_
                  intro a ht
                  refine wpl rfl rfl ht (ev_move ht rfl rfl) ?_
                  intro a ht
                  refine wpl_build_ints (l := [xs0_6, xs1_6, xs2_6]) rfl rfl ht hm rfl und_25 zo_2 sz1_2 (by decide) rfl rfl rfl ?_
                  intro A23 a ht w hm
                  replace hm : Ms _ _ _ _ (IntsAt A23 3 3 ([xs0_6, xs1_6, xs2_6]) :: _) w := hm.shutVec 0 rfl
                  replace hm : Ms _ _ _ _ (AllInts ([.slice A23 3 3]) ([[xs0_6, xs1_6, xs2_6]]) :: _) w := hm.addφ (allInts_cons (hm.ro 0 rfl) (allInts_nil))
                  refine wpl_buildSlice (vs := [.slice A23 3 3]) rfl rfl ht hm rfl und_38 zo_25 sz1_25 (by decide) rfl rfl rfl ?_
                  intro A24 a ht w hm
                  obtain ⟨l28, el28, H⟩ := bind_get H
                  replace hm : Ms _ _ _ _ (AllInts (vss2_5 ++ ([.slice A23 3 3])) l28 :: _) w := hm.addφ (allInts_append el28 (hm.ro 3 rfl) (hm.ro 0 rfl))
                  refine wpl_concat_rows (r := l28) 1 0 4 1 rfl rfl ht hm rfl ap_38 rfl rfl rfl rfl rfl rfl el28 ?_
                  intro A25 c26 m27 a ht w hm
                  refine wpl rfl rfl ht (ev_assign ht rfl rfl) ?_
                  intro a ht
                  refine wpList_nil ?_
                  refine blk_normal ?_
                  refine then_normal ?_
                  refine wpr ?_
                  refine wpl rfl rfl ht (ev_move ht rfl rfl) ?_
                  intro a ht
                  refine wpl rfl rfl ht (ev_arith ht rfl rfl rfl rfl) ?_
                  intro a ht
                  refine wpl rfl rfl ht (ev_assign ht rfl rfl) ?_
                  intro a ht
                  refine wpList_nil ?_
                  exact then_normal ⟨q10, by omega, l28, (w64 (xs2_6 + 1)), A25, c26, m27, (vss2_5 ++ ([.slice A23 3 3])), H, by omega, ht.sub ⟨rfl, rfl, rfl, rfl, rfl, rfl, rfl, rfl, rfl, rfl, rfl, rfl, rfl, rfl, rfl, rfl, rfl, rfl, trivial⟩, (hm.pick [1, 2] rfl (by decide)).pickφ [3, 0] rfl⟩
            · replace H := ite_no h15 H
              refine wph_pass (i := 13) rfl (by kernel_rfl) (by kernel_rfl) (by kernel_rfl) (fun _ _ _ h => h) rfl ht hS (wanted_no rfl ht rfl (by rw [(decide_eq_false h15)]; decide)) ?_
              intro a ht
              refine wph_pass (i := 14) rfl (by kernel_rfl) (by kernel_rfl) (by kernel_rfl) (fun _ _ _ h => h) rfl ht hS (wanted_no rfl ht rfl (by rw [(decide_eq_false h15)]; decide)) ?_
              intro a ht
              refine wph_pass (i := 15) rfl (by kernel_rfl) (by kernel_rfl) (by kernel_rfl) (fun _ _ _ h => h) rfl ht hS (wanted_no rfl ht rfl (by rw [(decide_eq_false h15)]; decide)) ?_
              intro a ht
              refine wph_pass (i := 16) rfl (by kernel_rfl) (by kernel_rfl) (by kernel_rfl) (fun _ _ _ h => h) rfl ht hS (wanted_no rfl ht rfl (by rw [(decide_eq_false h15)]; decide)) ?_
              intro a ht
              refine wph_pass (i := 17) rfl (by kernel_rfl) (by kernel_rfl) (by kernel_rfl) (fun _ _ _ h => h) rfl ht hS (wanted_no rfl ht rfl (by rw [(decide_eq_false h15)]; decide)) ?_
              intro a ht
              refine wph_take (i := 18) rfl (by kernel_rfl) (by kernel_rfl) (by kernel_rfl) (fun _ _ _ h => h) rfl ht hS (wanted_yes rfl ht rfl ((decide_eq_false h13))) (fun w hm => ev_pick_no ht rfl rfl (decide_eq_false h15) rfl) ?_
              intro a ht
              refine wph_take (i := 19) rfl (by kernel_rfl) (by kernel_rfl) (by kernel_rfl) (fun _ _ _ h => h) rfl ht hS (wanted_plain rfl) (fun w hm => ev_pick_no ht rfl rfl (decide_eq_false h13) rfl) ?_
              intro a ht
              refine wph_take (i := 20) rfl (by kernel_rfl) (by kernel_rfl) (by kernel_rfl) (fun _ _ _ h => h) rfl ht hS (wanted_plain rfl) (fun w hm => ev_move ht rfl rfl) ?_
              intro a ht
              refine wph_take (i := 21) rfl (by kernel_rfl) (by kernel_rfl) (by kernel_rfl) (fun _ _ _ h => h) rfl ht hS (wanted_yes rfl ht rfl (rfl)) (fun w hm => ev_load_agg ht rfl rfl (ag_28.trans (by first | rw [Col.length_cells] | rfl)) (hm.blk_all 1 rfl)) ?_
              intro a ht
              refine wph_take (i := 22) rfl (by kernel_rfl) (by kernel_rfl) (by kernel_rfl) (fun _ _ _ h => h) rfl ht hS (wanted_yes rfl ht rfl (rfl)) (fun w hm => ev_move ht rfl rfl) ?_
              intro a ht
              refine wph_take (i := 23) rfl (by kernel_rfl) (by kernel_rfl) (by kernel_rfl) (fun _ _ _ h => h) rfl ht hS (wanted_yes rfl ht rfl (rfl)) (fun w hm => ev_load_agg ht rfl rfl (ag_28.trans (by first | rw [Col.length_cells] | rfl)) (hm.blk_all 1 rfl)) ?_
              intro a ht
              refine wph_take (i := 24) rfl (by kernel_rfl) (by kernel_rfl) (by kernel_rfl) (fun _ _ _ h => h) rfl ht hS (wanted_yes rfl ht rfl (rfl)) (fun w hm => ev_move ht rfl rfl) ?_
              intro a ht
              refine wph_take (i := 25) rfl (by kernel_rfl) (by kernel_rfl) (by kernel_rfl) (fun _ _ _ h => h) rfl ht hS (wanted_yes rfl ht rfl (rfl)) (fun w hm => ev_move ht rfl rfl) ?_
              intro a ht
              refine wph_take (i := 27) rfl (by kernel_rfl) (by kernel_rfl) (by kernel_rfl) (fun _ _ _ h => h) rfl ht hS (wanted_yes rfl ht rfl (rfl)) (fun w hm => ev_load_agg ht rfl rfl (ag_28.trans (by first | rw [Col.length_cells] | rfl)) (hm.blk_all 1 rfl)) ?_
              intro a ht
              refine wph_take (i := 28) rfl (by kernel_rfl) (by kernel_rfl) (by kernel_rfl) (fun _ _ _ h => h) rfl ht hS (wanted_yes rfl ht rfl (rfl)) (fun w hm => ev_move ht rfl rfl) ?_
              intro a ht
              refine wph_take (i := 29) rfl (by kernel_rfl) (by kernel_rfl) (by kernel_rfl) (fun _ _ _ h => h) rfl ht hS (wanted_yes rfl ht rfl (rfl)) (fun w hm => ev_move ht rfl rfl) ?_
              intro a ht
              refine wph_take (i := 32) rfl (by kernel_rfl) (by kernel_rfl) (by kernel_rfl) (fun _ _ _ h => h) rfl ht hS (wanted_yes rfl ht rfl (rfl)) (fun w hm => ev_move ht rfl rfl) ?_
              intro a ht
              refine wph_take (i := 33) rfl (by kernel_rfl) (by kernel_rfl) (by kernel_rfl) (fun _ _ _ h => h) rfl ht hS (wanted_yes rfl ht rfl (rfl)) (fun w hm => ev_move ht rfl rfl) ?_
              intro a ht
              obtain ⟨t29, et29, H⟩ := bind_get H
              refine wph_take (i := 34) rfl (by kernel_rfl) (by kernel_rfl) (by kernel_rfl) (fun _ _ _ h => h) rfl ht hS (wanted_yes rfl ht rfl (rfl)) (fun w hm => ev_index_ints ht rfl rfl rfl so_25 (hm.fact (φ := IntsAt A c m sizes) 0 rfl) et29) ?_
              intro a ht
              refine wph_take (i := 35) rfl (by kernel_rfl) (by kernel_rfl) (by kernel_rfl) (fun _ _ _ h => h) rfl ht hS (wanted_yes rfl ht rfl (rfl)) (fun w hm => ev_load ht rfl rfl sc_2 (RowAt.cell (hm.fact (φ := IntsAt A c m sizes) 0 rfl) (ints_get et29) rfl)) ?_
              intro a ht
              refine wph_take (i := 36) rfl (by kernel_rfl) (by kernel_rfl) (by kernel_rfl) (fun _ _ _ h => h) rfl ht hS (wanted_yes rfl ht rfl (rfl)) (fun w hm => ev_arith ht rfl rfl rfl rfl) ?_
              intro a ht
              refine wph_one (i := 26) (by kernel_rfl) (wph_step rfl ?_)
              refine wpl_yes rfl ht rfl (rfl) ?_
              obtain ⟨t30, et30, H⟩ := bind_get H
              have hcall := spec_l01Around.calls q10 _ _ x xs0_6 xs2_6 _ ((fun (hq : Ms _ _ _ ([] ++ [.vec As2_1 cs2_2 25 1 ms2_3 vss2_5, .blk b1 28 (Col.cells x)]) _ _) => hq.lend (φp := []) (allRO_nil)) (hm.pick (own' := [] ++ [.vec As2_1 cs2_2 25 1 ms2_3 vss2_5, .blk b1 28 (Col.cells x)]) [0, 1] rfl (by decide))) et30
              refine wpl_call _ rfl rfl ht rfl rfl rfl rfl can_47 hcall ?_
              clear hcall
              rintro _ w ⟨rfl, hpost⟩ a ht
              replace hm := (hm.pick (own' := [] ++ [.vec As2_1 cs2_2 25 1 ms2_3 vss2_5, .blk b1 28 (Col.cells x)]) [0, 1] rfl (by decide)).backL hpost
              clear hpost
              have hS : Ms X (fps []) w0 [.vec As2_1 cs2_2 25 1 ms2_3 vss2_5, .blk b1 28 (Col.cells x)] [IntsAt A c m sizes, AllInts vss2_5 ls2_4] w := (hm.pick [0, 1] rfl (by decide)).pickφ [0, 1] rfl
              refine wpList_nil (qn ⟨hS, ?_⟩)
              refine wph_one (i := 30) (by kernel_rfl) (wph_step rfl ?_)
              refine wpl_yes rfl ht rfl (rfl) ?_
              obtain ⟨t31, et31, H⟩ := bind_get H
              have hcall := spec_l01Around.calls q10 _ _ x xs1_6 xs2_6 _ ((fun (hq : Ms _ _ _ ([] ++ [.vec As2_1 cs2_2 25 1 ms2_3 vss2_5, .blk b1 28 (Col.cells x)]) _ _) => hq.lend (φp := []) (allRO_nil)) (hm.pick (own' := [] ++ [.vec As2_1 cs2_2 25 1 ms2_3 vss2_5, .blk b1 28 (Col.cells x)]) [0, 1] rfl (by decide))) et31
              refine wpl_call _ rfl rfl ht rfl rfl rfl rfl can_47 hcall ?_
              clear hcall
              rintro _ w ⟨rfl, hpost⟩ a ht
              replace hm := (hm.pick (own' := [] ++ [.vec As2_1 cs2_2 25 1 ms2_3 vss2_5, .blk b1 28 (Col.cells x)]) [0, 1] rfl (by decide)).backL hpost
              clear hpost
              have hS : Ms X (fps []) w0 [.vec As2_1 cs2_2 25 1 ms2_3 vss2_5, .blk b1 28 (Col.cells x)] [IntsAt A c m sizes, AllInts vss2_5 ls2_4] w := (hm.pick [0, 1] rfl (by decide)).pickφ [0, 1] rfl
              refine wpList_nil (qn ⟨hS, ?_⟩)
              refine wph_take (i := 31) rfl (by kernel_rfl) (by kernel_rfl) (by kernel_rfl) (fun _ _ _ h => h) rfl ht hS (wanted_yes rfl ht rfl (rfl)) (fun w hm => ev_bit ht rfl rfl rfl rfl) ?_
              intro a ht
              refine wph_one (i := 37) (by kernel_rfl) (wph_step rfl ?_)
              refine wpl_yes rfl ht rfl (rfl) ?_
              obtain ⟨t32, et32, H⟩ := bind_get H
              have hcall := spec_l03Clique.calls q10 _ _ x xs2_6 (bitop .and .i64 t30 t31) (w64 (t29 - 2)) _ ((fun (hq : Ms _ _ _ ([] ++ [.vec As2_1 cs2_2 25 1 ms2_3 vss2_5, .blk b1 28 (Col.cells x)]) _ _) => hq.lend (φp := []) (allRO_nil)) (hm.pick (own' := [] ++ [.vec As2_1 cs2_2 25 1 ms2_3 vss2_5, .blk b1 28 (Col.cells x)]) [0, 1] rfl (by decide))) et32
              refine wpl_call _ rfl rfl ht rfl rfl rfl rfl can_46 hcall ?_
              clear hcall
              rintro _ w ⟨rfl, hpost⟩ a ht
              replace hm := (hm.pick (own' := [] ++ [.vec As2_1 cs2_2 25 1 ms2_3 vss2_5, .blk b1 28 (Col.cells x)]) [0, 1] rfl (by decide)).backL hpost
              clear hpost
              have hS : Ms X (fps []) w0 [.vec As2_1 cs2_2 25 1 ms2_3 vss2_5, .blk b1 28 (Col.cells x)] [IntsAt A c m sizes, AllInts vss2_5 ls2_4] w := (hm.pick [0, 1] rfl (by decide)).pickφ [0, 1] rfl
              refine wpList_nil (qn ⟨hS, ?_⟩)
              refine wph_take (i := 38) rfl (by kernel_rfl) (by kernel_rfl) (by kernel_rfl) (fun _ _ _ h => h) rfl ht hS (wanted_plain rfl) (fun w hm => ev_pick_no ht rfl rfl rfl rfl) ?_
              intro a ht
              refine wph_done (by kernel_rfl) ?_
              refine then_normal ?_
              by_cases h33 : t32 = true
              · replace H := ite_yes h33 H
                refine wpc_yes ht rfl h33 ?_
                refine wp_exit ?_
                refine then_exit ?_
                refine blk_hit ?_
                refine then_normal ?_
                refine wpr ?_
                refine wpl rfl rfl ht (ev_move ht rfl rfl) ?_
                intro a ht
                refine wpl rfl rfl ht (ev_arith ht rfl rfl rfl rfl) ?_
                intro a ht
                refine wpl rfl rfl ht (ev_assign ht rfl rfl) ?_
                intro a ht
                refine wpList_nil ?_
                exact then_normal ⟨q10, by omega, ls2_4, (w64 (xs2_6 + 1)), As2_1, cs2_2, ms2_3, vss2_5, H, by omega, ht.sub ⟨rfl, rfl, rfl, rfl, rfl, rfl, rfl, rfl, rfl, rfl, rfl, rfl, rfl, rfl, rfl, rfl, rfl, rfl, trivial⟩, (hm.pick [0, 1] rfl (by decide)).pickφ [0, 1] rfl⟩
              · replace H := ite_no h33 H
                refine wpc_no ht rfl (Bool.eq_false_iff.mpr h33) ?_
                refine wp_skip ?_
                refine then_normal ?_
                refine wpr ?_
                refine wpl rfl rfl ht (ev_move ht rfl rfl) ?_
                intro a ht
                refine wpl rfl rfl ht (ev_move ht rfl rfl) ?_
                intro a ht
                refine wpl rfl rfl ht (ev_move ht rfl rfl) ?_
                intro a ht
                refine wpl rfl rfl ht (ev_move ht rfl rfl) ?_
                intro a ht
                refine wpl_build_ints (l := [xs0_6, xs1_6, xs2_6]) rfl rfl ht hm rfl und_25 zo_2 sz1_2 (by decide) rfl rfl rfl ?_
                intro A34 a ht w hm
                replace hm : Ms _ _ _ _ (IntsAt A34 3 3 ([xs0_6, xs1_6, xs2_6]) :: _) w := hm.shutVec 0 rfl
                replace hm : Ms _ _ _ _ (AllInts ([.slice A34 3 3]) ([[xs0_6, xs1_6, xs2_6]]) :: _) w := hm.addφ (allInts_cons (hm.ro 0 rfl) (allInts_nil))
                refine wpl_buildSlice (vs := [.slice A34 3 3]) rfl rfl ht hm rfl und_38 zo_25 sz1_25 (by decide) rfl rfl rfl ?_
                intro A35 a ht w hm
                obtain ⟨l39, el39, H⟩ := bind_get H
                replace hm : Ms _ _ _ _ (AllInts (vss2_5 ++ ([.slice A34 3 3])) l39 :: _) w := hm.addφ (allInts_append el39 (hm.ro 3 rfl) (hm.ro 0 rfl))
                refine wpl_concat_rows (r := l39) 1 0 4 1 rfl rfl ht hm rfl ap_38 rfl rfl rfl rfl rfl rfl el39 ?_
                intro A36 c37 m38 a ht w hm
                refine wpl rfl rfl ht (ev_assign ht rfl rfl) ?_
                intro a ht
                refine wpList_nil ?_
                refine blk_normal ?_
                refine then_normal ?_
                refine wpr ?_
                refine wpl rfl rfl ht (ev_move ht rfl rfl) ?_
                intro a ht
                refine wpl rfl rfl ht (ev_arith ht rfl rfl rfl rfl) ?_
                intro a ht
                refine wpl rfl rfl ht (ev_assign ht rfl rfl) ?_
                intro a ht
                refine wpList_nil ?_
                exact then_normal ⟨q10, by omega, l39, (w64 (xs2_6 + 1)), A36, c37, m38, (vss2_5 ++ ([.slice A34 3 3])), H, by omega, ht.sub ⟨rfl, rfl, rfl, rfl, rfl, rfl, rfl, rfl, rfl, rfl, rfl, rfl, rfl, rfl, rfl, rfl, rfl, rfl, trivial⟩, (hm.pick [1, 2] rfl (by decide)).pickφ [3, 0] rfl⟩
        · replace H := ite_no h11 H
          refine wpc_no ht rfl (decide_eq_false h11) ?_
          refine wp_exit ?_
          refine then_exit ?_
          refine then_exit ?_
          refine blk_hit ?_
          refine blk_normal ?_
          refine then_normal ?_
          refine wpr ?_
          refine wpl rfl rfl ht (ev_move ht rfl rfl) ?_
          intro a ht
          refine wpl rfl rfl ht (ev_arith ht rfl rfl rfl rfl) ?_
          intro a ht
          refine wpl rfl rfl ht (ev_assign ht rfl rfl) ?_
          intro a ht
          refine wpList_nil ?_
          exact then_normal ⟨q10, by omega, ls2_4, (w64 (xs1_6 + 1)), As2_1, cs2_2, ms2_3, vss2_5, H, by omega, ht.sub ⟨rfl, rfl, rfl, rfl, rfl, rfl, rfl, rfl, rfl, rfl, rfl, rfl, rfl, trivial⟩, (hm.pick [0, 1] rfl (by decide)).pickφ [0, 1] rfl⟩
      · replace H := ite_no h9 H
        refine wpc_no ht rfl (decide_eq_false h9) ?_
        refine wp_exit ?_
        refine then_exit ?_
        refine then_exit ?_
        refine blk_hit ?_
        refine blk_normal ?_
        refine then_normal ?_
        refine wpr ?_
        refine wpl rfl rfl ht (ev_move ht rfl rfl) ?_
        intro a ht
        refine wpl rfl rfl ht (ev_arith ht rfl rfl rfl rfl) ?_
        intro a ht
        refine wpl rfl rfl ht (ev_assign ht rfl rfl) ?_
        intro a ht
        refine wpList_nil ?_
        exact then_normal ⟨q8, by omega, ls1_4, (w64 (xs0_6 + 1)), As1_1, cs1_2, ms1_3, vss1_5, H, by omega, ht.sub ⟨rfl, rfl, rfl, rfl, rfl, rfl, trivial⟩, (hm.pick [0, 1] rfl (by decide)).pickφ [0, 1] rfl⟩
    · replace H := ite_no h7 H
      refine wpc_no ht rfl (decide_eq_false h7) ?_
      refine wp_exit ?_
      refine then_exit ?_
      refine then_exit ?_
      refine blk_hit ?_
      refine then_normal ?_
      refine wp_seq ?_
      refine wpr ?_
      refine wpl rfl rfl ht (ev_move ht rfl rfl) ?_
      intro a ht
      refine wpl rfl rfl ht (ev_assign ht rfl rfl) ?_
      intro a ht
      refine wpl rfl rfl ht (ev_assign ht rfl rfl) ?_
      intro a ht
      refine wpList_nil ?_
      refine then_normal ?_
      refine wp_ret ?_
      have hres := ht.res (P := Try.prog) (w := w) (rs := [.tmp 4, .tmp 5]) (vs := [.slice As0_1 ms0_3 cs0_2, .int .i64 0]) (.tmp rfl (.tmp rfl .nil))
      obtain rfl := Option.some.inj H
      exact leave ht rfl hres ⟨As0_1, cs0_2, ms0_3, vss0_5, rfl, ((hm.pick [0] rfl (by decide)).pickφ [1] rfl).post fun _ h => h⟩

end Go.Proofs.Ytocjhmeekecdiaa.G
