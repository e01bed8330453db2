/- What each Go function computes, as a Lean function, and the proof that it does: written by a program of this session (wip/gen), part 3. -/
import Derived.Test.YtdpamdedomkomaaGFnExactCliqueNumbers2
namespace Go.Proofs.Ytdpamdedomkomaa.G
open Go Go.RowKit Go.Proofs.Ytdpamdedomkomaa.K
set_option linter.unusedVariables false
set_option linter.unusedSimpArgs false

/-! ### spec_l02List: function 79 (loop.example/g01362/spec.l02List) -/
def spec_l02List.f (k : Nat) (x : Col) (c : Int) (m : Int) (most : Int) : Option (List (List Int)) := (spec_l02Rows.f k x c).bind fun t2 => (spec_l02Go.f k t2 ([] : List Int) (w64 ((shlI .i64 1 (wu64 x.p)) - 1)) m ([] : List (List Int)) most).bind fun t8 => some t8
set_option maxRecDepth 100000 in
set_option maxHeartbeats 1000000 in
theorem spec_l02List.calls (k : Nat) (X : List Nat) (w0 : World)  (x : Col) (c : Int) (m : Int) (most : Int) (r : List (List Int))
    (hp : Pre X w0 [] []) (H : spec_l02List.f k x c m most = some r) :
    Calls Try.prog 79 [.agg (Col.cells x).toArray, .int .i64 c, .int .i64 m, .int .i64 most].toArray w0 (Ret fun v w => ∃ (A_0 : Option Addr) (c_0 : Nat) (n_0 : Nat) (vs_0 : List Value), v = .slice A_0 n_0 c_0 ∧ Post X (fps []) w0 [.vec A_0 c_0 25 1 n_0 vs_0] [AllInts vs_0 r] w) := by
  unfold spec_l02List.f at H
  refine enterM (n := 22) hp Try.func79 rfl rfl (Nat.le_of_ble_eq_true rfl) fun a w ht hm => ?_
  refine wp_seq ?_
  refine wpr ?_
  refine wpl_box rfl rfl ht hm rfl rfl rfl ?_
  intro b1 a ht w hm
  refine wpl rfl rfl ht (ev_assign ht rfl rfl) ?_
  intro a ht
  refine wpList_nil ?_
  refine then_normal ?_
  refine wp_seq ?_
  refine wph_begin (fun w => Ms X (fps []) w0 [.blk b1 28 (Col.cells x)] [] w) mixed ?_
  replace hm := hm.drew
  have hS : Ms X (fps []) w0 [.blk b1 28 (Col.cells x)] [] w.drew := (hm.pick [0] rfl (by decide)).pickφ [] rfl
  generalize w.drew = w at hm hS ⊢
  refine wph_take (i := 0) rfl (by kernel_rfl) (by kernel_rfl) (by kernel_rfl) (fun _ _ _ h => h) rfl ht hS (wanted_plain rfl) (fun w hm => ev_load_agg ht rfl rfl (ag_28.trans (by first | rw [Col.length_cells] | rfl)) (hm.blk_all 0 rfl)) ?_
  intro a ht
  refine wph_take (i := 1) rfl (by kernel_rfl) (by kernel_rfl) (by kernel_rfl) (fun _ _ _ h => h) rfl ht hS (wanted_plain rfl) (fun w hm => ev_move ht rfl rfl) ?_
  intro a ht
  refine wph_take (i := 4) rfl (by kernel_rfl) (by kernel_rfl) (by kernel_rfl) (fun _ _ _ h => h) rfl ht hS (wanted_plain rfl) (fun w hm => ev_fieldAddr ht rfl rfl fo_28_0) ?_
  intro a ht
  refine wph_take (i := 5) rfl (by kernel_rfl) (by kernel_rfl) (by kernel_rfl) (fun _ _ _ h => h) rfl ht hS (wanted_plain rfl) (fun w hm => ev_load ht rfl rfl sc_2 (hm.blk_cell 0 rfl rfl)) ?_
  intro a ht
  refine wph_take (i := 6) rfl (by kernel_rfl) (by kernel_rfl) (by kernel_rfl) (fun _ _ _ h => h) rfl ht hS (wanted_plain rfl) (fun w hm => ev_convert ht rfl rfl und_2 und_68) ?_
  intro a ht
  refine wph_take (i := 7) rfl (by kernel_rfl) (by kernel_rfl) (by kernel_rfl) (fun _ _ _ h => h) rfl ht hS (wanted_plain rfl) (fun w hm => ev_shl ht rfl rfl rfl (wrapU_nonneg _ _ rfl)) ?_
  intro a ht
  refine wph_take (i := 8) rfl (by kernel_rfl) (by kernel_rfl) (by kernel_rfl) (fun _ _ _ h => h) rfl ht hS (wanted_plain rfl) (fun w hm => ev_arith ht rfl rfl rfl rfl) ?_
  intro a ht
  refine wph_take (i := 9) rfl (by kernel_rfl) (by kernel_rfl) (by kernel_rfl) (fun _ _ _ h => h) rfl ht hS (wanted_plain rfl) (fun w hm => ev_move ht rfl rfl) ?_
  intro a ht
  refine wph_take (i := 11) rfl (by kernel_rfl) (by kernel_rfl) (by kernel_rfl) (fun _ _ _ h => h) rfl ht hS (wanted_plain rfl) (fun w hm => ev_move ht rfl rfl) ?_
  intro a ht
  refine wph_three (i := 2) (j := 3) (l := 10) (by kernel_rfl) ?_ ?_ ?_ 
  · refine wph_step rfl ?_
    obtain ⟨t2, et2, H⟩ := bind_get H
    have hcall := spec_l02Rows.calls k _ _ x c _ ((fun (hq : Ms _ _ _ ([] ++ [.blk b1 28 (Col.cells x)]) _ _) => hq.lend (φp := []) (allRO_nil)) (hm.pick (own' := [] ++ [.blk b1 28 (Col.cells x)]) [0] rfl (by decide))) et2
    refine wpl_call _ rfl rfl ht rfl rfl rfl rfl can_59 hcall ?_
    clear hcall
    rintro _ w ⟨A3, c4, m5, rfl, hpost⟩ a ht
    replace hm := (hm.pick (own' := [] ++ [.blk b1 28 (Col.cells x)]) [0] rfl (by decide)).backL hpost
    clear hpost
    have hS : Ms X (fps []) w0 [.blk b1 28 (Col.cells x)] [] w := (hm.pick [1] rfl (by decide)).pickφ [] rfl
    refine wpList_nil (qn ⟨hS, ?_⟩)
    refine wph_two (i := 3) (j := 10) (by kernel_rfl) ?_ ?_ 
    · refine wph_step rfl ?_
      refine wpl_build_ints (l := ([] : List Int)) rfl rfl ht hm rfl und_25 zo_2 sz1_2 (by decide) rfl rfl rfl ?_
      intro A6 a ht w hm
      have hS : Ms X (fps []) w0 [.blk b1 28 (Col.cells x)] [] w := (hm.pick [2] rfl (by decide)).pickφ [] rfl
      refine wpList_nil (qn ⟨hS, ?_⟩)
      refine wph_one (i := 10) (by kernel_rfl) (wph_step rfl ?_)
      replace hm : Ms _ _ _ _ (AllInts ([]) ([] : List (List Int)) :: _) w := hm.addφ (allInts_nil)
      refine wpl_buildSlice (vs := []) rfl rfl ht hm rfl und_49 zo_25 sz1_25 (by decide) rfl rfl rfl ?_
      intro A7 a ht w hm
      have hS : Ms X (fps []) w0 [.blk b1 28 (Col.cells x)] [] w := (hm.pick [3] rfl (by decide)).pickφ [] rfl
      refine wpList_nil (qn ⟨hS, ?_⟩)
      refine wph_one (i := 12) (by kernel_rfl) (wph_step rfl ?_)
      replace hm : Ms _ _ _ _ (IntsAt A3 c4 m5 t2 :: _) w := hm.shutVec 2 rfl
      replace hm : Ms _ _ _ _ (IntsAt A6 0 0 ([] : List Int) :: _) w := hm.shutVec 1 rfl
      obtain ⟨t8, et8, H⟩ := bind_get H
      have hcall := spec_l02Go.calls k _ _ A3 c4 m5 A6 0 0 A7 0 0 ([]) t2 ([] : List Int) (w64 ((shlI .i64 1 (wu64 x.p)) - 1)) m ([] : List (List Int)) most _ ((hm.pick (own' := [.vec A7 0 25 1 0 ([])] ++ [.blk b1 28 (Col.cells x)]) [0, 1] rfl (by decide)).give (passed := [.vec A7 0 25 1 0 ([])]) (rest := [.blk b1 28 (Col.cells x)]) (φp := [IntsAt A3 c4 m5 t2, IntsAt A6 0 0 ([] : List Int), AllInts ([]) ([] : List (List Int))]) [1, 0, 2] rfl) et8
      refine wpl_call _ rfl rfl ht rfl rfl rfl rfl can_110 hcall ?_
      clear hcall
      rintro _ w ⟨A9, c10, m11, vs12, rfl, hpost⟩ a ht
      replace hm := (hm.pick (own' := [.vec A7 0 25 1 0 ([])] ++ [.blk b1 28 (Col.cells x)]) [0, 1] rfl (by decide)).back hpost
      clear hpost
      have hS : Ms X (fps []) w0 [.blk b1 28 (Col.cells x)] [] w := (hm.pick [1] rfl (by decide)).pickφ [] rfl
      refine wpList_nil (qn ⟨hS, ?_⟩)
      refine wph_take (i := 13) rfl (by kernel_rfl) (by kernel_rfl) (by kernel_rfl) (fun _ _ _ h => h) rfl ht hS (wanted_plain rfl) (fun w hm => ev_assign ht rfl rfl) ?_
      intro a ht
      refine wph_done (by kernel_rfl) ?_
      refine then_normal ?_
      refine wp_ret ?_
      have hres := ht.res (P := Try.prog) (w := w) (rs := [.tmp 8]) (vs := [.slice A9 m11 c10]) (.tmp rfl .nil)
      obtain rfl := Option.some.inj H
      exact leave ht rfl hres ⟨A9, c10, m11, vs12, rfl, ((hm.pick [0] rfl (by decide)).pickφ [0] rfl).post fun _ h => h⟩
    · refine wph_step rfl ?_
      replace hm : Ms _ _ _ _ (AllInts ([]) ([] : List (List Int)) :: _) w := hm.addφ (allInts_nil)
      refine wpl_buildSlice (vs := []) rfl rfl ht hm rfl und_49 zo_25 sz1_25 (by decide) rfl rfl rfl ?_
      intro A6 a ht w hm
      have hS : Ms X (fps []) w0 [.blk b1 28 (Col.cells x)] [] w := (hm.pick [2] rfl (by decide)).pickφ [] rfl
      refine wpList_nil (qn ⟨hS, ?_⟩)
      refine wph_one (i := 3) (by kernel_rfl) (wph_step rfl ?_)
      refine wpl_build_ints (l := ([] : List Int)) rfl rfl ht hm rfl und_25 zo_2 sz1_2 (by decide) rfl rfl rfl ?_
      intro A7 a ht w hm
      have hS : Ms X (fps []) w0 [.blk b1 28 (Col.cells x)] [] w := (hm.pick [3] rfl (by decide)).pickφ [] rfl
      refine wpList_nil (qn ⟨hS, ?_⟩)
      refine wph_one (i := 12) (by kernel_rfl) (wph_step rfl ?_)
      replace hm : Ms _ _ _ _ (IntsAt A3 c4 m5 t2 :: _) w := hm.shutVec 2 rfl
      replace hm : Ms _ _ _ _ (IntsAt A7 0 0 ([] : List Int) :: _) w := hm.shutVec 0 rfl
      obtain ⟨t8, et8, H⟩ := bind_get H
      have hcall := spec_l02Go.calls k _ _ A3 c4 m5 A7 0 0 A6 0 0 ([]) t2 ([] : List Int) (w64 ((shlI .i64 1 (wu64 x.p)) - 1)) m ([] : List (List Int)) most _ ((hm.pick (own' := [.vec A6 0 25 1 0 ([])] ++ [.blk b1 28 (Col.cells x)]) [0, 1] rfl (by decide)).give (passed := [.vec A6 0 25 1 0 ([])]) (rest := [.blk b1 28 (Col.cells x)]) (φp := [IntsAt A3 c4 m5 t2, IntsAt A7 0 0 ([] : List Int), AllInts ([]) ([] : List (List Int))]) [1, 0, 2] rfl) et8
      refine wpl_call _ rfl rfl ht rfl rfl rfl rfl can_110 hcall ?_
      clear hcall
      rintro _ w ⟨A9, c10, m11, vs12, rfl, hpost⟩ a ht
      replace hm := (hm.pick (own' := [.vec A6 0 25 1 0 ([])] ++ [.blk b1 28 (Col.cells x)]) [0, 1] rfl (by decide)).back hpost
      clear hpost
      have hS : Ms X (fps []) w0 [.blk b1 28 (Col.cells x)] [] w := (hm.pick [1] rfl (by decide)).pickφ [] rfl
      refine wpList_nil (qn ⟨hS, ?_⟩)
      refine wph_take (i := 13) rfl (by kernel_rfl) (by kernel_rfl) (by kernel_rfl) (fun _ _ _ h => h) rfl ht hS (wanted_plain rfl) (fun w hm => ev_assign ht rfl rfl) ?_
      intro a ht
      refine wph_done (by kernel_rfl) ?_
      refine then_normal ?_
      refine wp_ret ?_
      have hres := ht.res (P := Try.prog) (w := w) (rs := [.tmp 8]) (vs := [.slice A9 m11 c10]) (.tmp rfl .nil)
      obtain rfl := Option.some.inj H
      exact leave ht rfl hres ⟨A9, c10, m11, vs12, rfl, ((hm.pick [0] rfl (by decide)).pickφ [0] rfl).post fun _ h => h⟩
  · refine wph_step rfl ?_
    refine wpl_build_ints (l := ([] : List Int)) rfl rfl ht hm rfl und_25 zo_2 sz1_2 (by decide) rfl rfl rfl ?_
    intro A2 a ht w hm
    have hS : Ms X (fps []) w0 [.blk b1 28 (Col.cells x)] [] w := (hm.pick [1] rfl (by decide)).pickφ [] rfl
    refine wpList_nil (qn ⟨hS, ?_⟩)
    refine wph_two (i := 2) (j := 10) (by kernel_rfl) ?_ ?_ 
    · refine wph_step rfl ?_
      obtain ⟨t3, et3, H⟩ := bind_get H
      have hcall := spec_l02Rows.calls k _ _ x c _ ((fun (hq : Ms _ _ _ ([] ++ [.vec A2 0 2 1 0 (ints ([] : List Int)), .blk b1 28 (Col.cells x)]) _ _) => hq.lend (φp := []) (allRO_nil)) (hm.pick (own' := [] ++ [.vec A2 0 2 1 0 (ints ([] : List Int)), .blk b1 28 (Col.cells x)]) [0, 1] rfl (by decide))) et3
      refine wpl_call _ rfl rfl ht rfl rfl rfl rfl can_59 hcall ?_
      clear hcall
      rintro _ w ⟨A4, c5, m6, rfl, hpost⟩ a ht
      replace hm := (hm.pick (own' := [] ++ [.vec A2 0 2 1 0 (ints ([] : List Int)), .blk b1 28 (Col.cells x)]) [0, 1] rfl (by decide)).backL hpost
      clear hpost
      have hS : Ms X (fps []) w0 [.blk b1 28 (Col.cells x)] [] w := (hm.pick [2] rfl (by decide)).pickφ [] rfl
      refine wpList_nil (qn ⟨hS, ?_⟩)
      refine wph_one (i := 10) (by kernel_rfl) (wph_step rfl ?_)
      replace hm : Ms _ _ _ _ (AllInts ([]) ([] : List (List Int)) :: _) w := hm.addφ (allInts_nil)
      refine wpl_buildSlice (vs := []) rfl rfl ht hm rfl und_49 zo_25 sz1_25 (by decide) rfl rfl rfl ?_
      intro A7 a ht w hm
      have hS : Ms X (fps []) w0 [.blk b1 28 (Col.cells x)] [] w := (hm.pick [3] rfl (by decide)).pickφ [] rfl
      refine wpList_nil (qn ⟨hS, ?_⟩)
      refine wph_one (i := 12) (by kernel_rfl) (wph_step rfl ?_)
      replace hm : Ms _ _ _ _ (IntsAt A4 c5 m6 t3 :: _) w := hm.shutVec 1 rfl
      replace hm : Ms _ _ _ _ (IntsAt A2 0 0 ([] : List Int) :: _) w := hm.shutVec 1 rfl
      obtain ⟨t8, et8, H⟩ := bind_get H
      have hcall := spec_l02Go.calls k _ _ A4 c5 m6 A2 0 0 A7 0 0 ([]) t3 ([] : List Int) (w64 ((shlI .i64 1 (wu64 x.p)) - 1)) m ([] : List (List Int)) most _ ((hm.pick (own' := [.vec A7 0 25 1 0 ([])] ++ [.blk b1 28 (Col.cells x)]) [0, 1] rfl (by decide)).give (passed := [.vec A7 0 25 1 0 ([])]) (rest := [.blk b1 28 (Col.cells x)]) (φp := [IntsAt A4 c5 m6 t3, IntsAt A2 0 0 ([] : List Int), AllInts ([]) ([] : List (List Int))]) [1, 0, 2] rfl) et8
      refine wpl_call _ rfl rfl ht rfl rfl rfl rfl can_110 hcall ?_
      clear hcall
      rintro _ w ⟨A9, c10, m11, vs12, rfl, hpost⟩ a ht
      replace hm := (hm.pick (own' := [.vec A7 0 25 1 0 ([])] ++ [.blk b1 28 (Col.cells x)]) [0, 1] rfl (by decide)).back hpost
      clear hpost
      have hS : Ms X (fps []) w0 [.blk b1 28 (Col.cells x)] [] w := (hm.pick [1] rfl (by decide)).pickφ [] rfl
      refine wpList_nil (qn ⟨hS, ?_⟩)
      refine wph_take (i := 13) rfl (by kernel_rfl) (by kernel_rfl) (by kernel_rfl) (fun _ _ _ h => h) rfl ht hS (wanted_plain rfl) (fun w hm => ev_assign ht rfl rfl) ?_
      intro a ht
      refine wph_done (by kernel_rfl) ?_
      refine then_normal ?_
      refine wp_ret ?_
      have hres := ht.res (P := Try.prog) (w := w) (rs := [.tmp 8]) (vs := [.slice A9 m11 c10]) (.tmp rfl .nil)
      obtain rfl := Option.some.inj H
      exact leave ht rfl hres ⟨A9, c10, m11, vs12, rfl, ((hm.pick [0] rfl (by decide)).pickφ [0] rfl).post fun _ h => h⟩
    · refine wph_step rfl ?_
      replace hm : Ms _ _ _ _ (AllInts ([]) ([] : List (List Int)) :: _) w := hm.addφ (allInts_nil)
      refine wpl_buildSlice (vs := []) rfl rfl ht hm rfl und_49 zo_25 sz1_25 (by decide) rfl rfl rfl ?_
      intro A3 a ht w hm
      have hS : Ms X (fps []) w0 [.blk b1 28 (Col.cells x)] [] w := (hm.pick [2] rfl (by decide)).pickφ [] rfl
      refine wpList_nil (qn ⟨hS, ?_⟩)
      refine wph_one (i := 2) (by kernel_rfl) (wph_step rfl ?_)
      obtain ⟨t4, et4, H⟩ := bind_get H
      have hcall := spec_l02Rows.calls k _ _ x c _ ((fun (hq : Ms _ _ _ ([] ++ [.vec A3 0 25 1 0 ([]), .vec A2 0 2 1 0 (ints ([] : List Int)), .blk b1 28 (Col.cells x)]) _ _) => hq.lend (φp := []) (allRO_nil)) (hm.pick (own' := [] ++ [.vec A3 0 25 1 0 ([]), .vec A2 0 2 1 0 (ints ([] : List Int)), .blk b1 28 (Col.cells x)]) [0, 1, 2] rfl (by decide))) et4
      refine wpl_call _ rfl rfl ht rfl rfl rfl rfl can_59 hcall ?_
      clear hcall
      rintro _ w ⟨A5, c6, m7, rfl, hpost⟩ a ht
      replace hm := (hm.pick (own' := [] ++ [.vec A3 0 25 1 0 ([]), .vec A2 0 2 1 0 (ints ([] : List Int)), .blk b1 28 (Col.cells x)]) [0, 1, 2] rfl (by decide)).backL hpost
      clear hpost
      have hS : Ms X (fps []) w0 [.blk b1 28 (Col.cells x)] [] w := (hm.pick [3] rfl (by decide)).pickφ [] rfl
      refine wpList_nil (qn ⟨hS, ?_⟩)
      refine wph_one (i := 12) (by kernel_rfl) (wph_step rfl ?_)
      replace hm : Ms _ _ _ _ (IntsAt A5 c6 m7 t4 :: _) w := hm.shutVec 0 rfl
      replace hm : Ms _ _ _ _ (IntsAt A2 0 0 ([] : List Int) :: _) w := hm.shutVec 1 rfl
      obtain ⟨t8, et8, H⟩ := bind_get H
      have hcall := spec_l02Go.calls k _ _ A5 c6 m7 A2 0 0 A3 0 0 ([]) t4 ([] : List Int) (w64 ((shlI .i64 1 (wu64 x.p)) - 1)) m ([] : List (List Int)) most _ ((hm.pick (own' := [.vec A3 0 25 1 0 ([])] ++ [.blk b1 28 (Col.cells x)]) [0, 1] rfl (by decide)).give (passed := [.vec A3 0 25 1 0 ([])]) (rest := [.blk b1 28 (Col.cells x)]) (φp := [IntsAt A5 c6 m7 t4, IntsAt A2 0 0 ([] : List Int), AllInts ([]) ([] : List (List Int))]) [1, 0, 2] rfl) et8
      refine wpl_call _ rfl rfl ht rfl rfl rfl rfl can_110 hcall ?_
      clear hcall
      rintro _ w ⟨A9, c10, m11, vs12, rfl, hpost⟩ a ht
      replace hm := (hm.pick (own' := [.vec A3 0 25 1 0 ([])] ++ [.blk b1 28 (Col.cells x)]) [0, 1] rfl (by decide)).back hpost
      clear hpost
      have hS : Ms X (fps []) w0 [.blk b1 28 (Col.cells x)] [] w := (hm.pick [1] rfl (by decide)).pickφ [] rfl
      refine wpList_nil (qn ⟨hS, ?_⟩)
      refine wph_take (i := 13) rfl (by kernel_rfl) (by kernel_rfl) (by kernel_rfl) (fun _ _ _ h => h) rfl ht hS (wanted_plain rfl) (fun w hm => ev_assign ht rfl rfl) ?_
      intro a ht
      refine wph_done (by kernel_rfl) ?_
      refine then_normal ?_
      refine wp_ret ?_
      have hres := ht.res (P := Try.prog) (w := w) (rs := [.tmp 8]) (vs := [.slice A9 m11 c10]) (.tmp rfl .nil)
      obtain rfl := Option.some.inj H
      exact leave ht rfl hres ⟨A9, c10, m11, vs12, rfl, ((hm.pick [0] rfl (by decide)).pickφ [0] rfl).post fun _ h => h⟩
  · refine wph_step rfl ?_
    replace hm : Ms _ _ _ _ (AllInts ([]) ([] : List (List Int)) :: _) w := hm.addφ (allInts_nil)
    refine wpl_buildSlice (vs := []) rfl rfl ht hm rfl und_49 zo_25 sz1_25 (by decide) rfl rfl rfl ?_
    intro A2 a ht w hm
    have hS : Ms X (fps []) w0 [.blk b1 28 (Col.cells x)] [] w := (hm.pick [1] rfl (by decide)).pickφ [] rfl
    refine wpList_nil (qn ⟨hS, ?_⟩)
    refine wph_two (i := 2) (j := 3) (by kernel_rfl) ?_ ?_ 
    · refine wph_step rfl ?_
      obtain ⟨t3, et3, H⟩ := bind_get H
      have hcall := spec_l02Rows.calls k _ _ x c _ ((fun (hq : Ms _ _ _ ([] ++ [.vec A2 0 25 1 0 ([]), .blk b1 28 (Col.cells x)]) _ _) => hq.lend (φp := []) (allRO_nil)) (hm.pick (own' := [] ++ [.vec A2 0 25 1 0 ([]), .blk b1 28 (Col.cells x)]) [0, 1] rfl (by decide))) et3
      refine wpl_call _ rfl rfl ht rfl rfl rfl rfl can_59 hcall ?_
      clear hcall
      rintro _ w ⟨A4, c5, m6, rfl, hpost⟩ a ht
      replace hm := (hm.pick (own' := [] ++ [.vec A2 0 25 1 0 ([]), .blk b1 28 (Col.cells x)]) [0, 1] rfl (by decide)).backL hpost
      clear hpost
      have hS : Ms X (fps []) w0 [.blk b1 28 (Col.cells x)] [] w := (hm.pick [2] rfl (by decide)).pickφ [] rfl
      refine wpList_nil (qn ⟨hS, ?_⟩)
      refine wph_one (i := 3) (by kernel_rfl) (wph_step rfl ?_)
      refine wpl_build_ints (l := ([] : List Int)) rfl rfl ht hm rfl und_25 zo_2 sz1_2 (by decide) rfl rfl rfl ?_
      intro A7 a ht w hm
      have hS : Ms X (fps []) w0 [.blk b1 28 (Col.cells x)] [] w := (hm.pick [3] rfl (by decide)).pickφ [] rfl
      refine wpList_nil (qn ⟨hS, ?_⟩)
      refine wph_one (i := 12) (by kernel_rfl) (wph_step rfl ?_)
      replace hm : Ms _ _ _ _ (IntsAt A4 c5 m6 t3 :: _) w := hm.shutVec 1 rfl
      replace hm : Ms _ _ _ _ (IntsAt A7 0 0 ([] : List Int) :: _) w := hm.shutVec 0 rfl
      obtain ⟨t8, et8, H⟩ := bind_get H
      have hcall := spec_l02Go.calls k _ _ A4 c5 m6 A7 0 0 A2 0 0 ([]) t3 ([] : List Int) (w64 ((shlI .i64 1 (wu64 x.p)) - 1)) m ([] : List (List Int)) most _ ((hm.pick (own' := [.vec A2 0 25 1 0 ([])] ++ [.blk b1 28 (Col.cells x)]) [0, 1] rfl (by decide)).give (passed := [.vec A2 0 25 1 0 ([])]) (rest := [.blk b1 28 (Col.cells x)]) (φp := [IntsAt A4 c5 m6 t3, IntsAt A7 0 0 ([] : List Int), AllInts ([]) ([] : List (List Int))]) [1, 0, 2] rfl) et8
      refine wpl_call _ rfl rfl ht rfl rfl rfl rfl can_110 hcall ?_
      clear hcall
      rintro _ w ⟨A9, c10, m11, vs12, rfl, hpost⟩ a ht
      replace hm := (hm.pick (own' := [.vec A2 0 25 1 0 ([])] ++ [.blk b1 28 (Col.cells x)]) [0, 1] rfl (by decide)).back hpost
      clear hpost
      have hS : Ms X (fps []) w0 [.blk b1 28 (Col.cells x)] [] w := (hm.pick [1] rfl (by decide)).pickφ [] rfl
      refine wpList_nil (qn ⟨hS, ?_⟩)
      refine wph_take (i := 13) rfl (by kernel_rfl) (by kernel_rfl) (by kernel_rfl) (fun _ _ _ h => h) rfl ht hS (wanted_plain rfl) (fun w hm => ev_assign ht rfl rfl) ?_
      intro a ht
      refine wph_done (by kernel_rfl) ?_
      refine then_normal ?_
      refine wp_ret ?_
      have hres := ht.res (P := Try.prog) (w := w) (rs := [.tmp 8]) (vs := [.slice A9 m11 c10]) (.tmp rfl .nil)
      obtain rfl := Option.some.inj H
      exact leave ht rfl hres ⟨A9, c10, m11, vs12, rfl, ((hm.pick [0] rfl (by decide)).pickφ [0] rfl).post fun _ h => h⟩
    · refine wph_step rfl ?_
      refine wpl_build_ints (l := ([] : List Int)) rfl rfl ht hm rfl und_25 zo_2 sz1_2 (by decide) rfl rfl rfl ?_
      intro A3 a ht w hm
      have hS : Ms X (fps []) w0 [.blk b1 28 (Col.cells x)] [] w := (hm.pick [2] rfl (by decide)).pickφ [] rfl
      refine wpList_nil (qn ⟨hS, ?_⟩)
      refine wph_one (i := 2) (by kernel_rfl) (wph_step rfl ?_)
      obtain ⟨t4, et4, H⟩ := bind_get H
      have hcall := spec_l02Rows.calls k _ _ x c _ ((fun (hq : Ms _ _ _ ([] ++ [.vec A3 0 2 1 0 (ints ([] : List Int)), .vec A2 0 25 1 0 ([]), .blk b1 28 (Col.cells x)]) _ _) => hq.lend (φp := []) (allRO_nil)) (hm.pick (own' := [] ++ [.vec A3 0 2 1 0 (ints ([] : List Int)), .vec A2 0 25 1 0 ([]), .blk b1 28 (Col.cells x)]) [0, 1, 2] rfl (by decide))) et4
      refine wpl_call _ rfl rfl ht rfl rfl rfl rfl can_59 hcall ?_
      clear hcall
      rintro _ w ⟨A5, c6, m7, rfl, hpost⟩ a ht
      replace hm := (hm.pick (own' := [] ++ [.vec A3 0 2 1 0 (ints ([] : List Int)), .vec A2 0 25 1 0 ([]), .blk b1 28 (Col.cells x)]) [0, 1, 2] rfl (by decide)).backL hpost
      clear hpost
      have hS : Ms X (fps []) w0 [.blk b1 28 (Col.cells x)] [] w := (hm.pick [3] rfl (by decide)).pickφ [] rfl
      refine wpList_nil (qn ⟨hS, ?_⟩)
      refine wph_one (i := 12) (by kernel_rfl) (wph_step rfl ?_)
      replace hm : Ms _ _ _ _ (IntsAt A5 c6 m7 t4 :: _) w := hm.shutVec 0 rfl
      replace hm : Ms _ _ _ _ (IntsAt A3 0 0 ([] : List Int) :: _) w := hm.shutVec 0 rfl
      obtain ⟨t8, et8, H⟩ := bind_get H
      have hcall := spec_l02Go.calls k _ _ A5 c6 m7 A3 0 0 A2 0 0 ([]) t4 ([] : List Int) (w64 ((shlI .i64 1 (wu64 x.p)) - 1)) m ([] : List (List Int)) most _ ((hm.pick (own' := [.vec A2 0 25 1 0 ([])] ++ [.blk b1 28 (Col.cells x)]) [0, 1] rfl (by decide)).give (passed := [.vec A2 0 25 1 0 ([])]) (rest := [.blk b1 28 (Col.cells x)]) (φp := [IntsAt A5 c6 m7 t4, IntsAt A3 0 0 ([] : List Int), AllInts ([]) ([] : List (List Int))]) [1, 0, 2] rfl) et8
      refine wpl_call _ rfl rfl ht rfl rfl rfl rfl can_110 hcall ?_
      clear hcall
      rintro _ w ⟨A9, c10, m11, vs12, rfl, hpost⟩ a ht
      replace hm := (hm.pick (own' := [.vec A2 0 25 1 0 ([])] ++ [.blk b1 28 (Col.cells x)]) [0, 1] rfl (by decide)).back hpost
      clear hpost
      have hS : Ms X (fps []) w0 [.blk b1 28 (Col.cells x)] [] w := (hm.pick [1] rfl (by decide)).pickφ [] rfl
      refine wpList_nil (qn ⟨hS, ?_⟩)
      refine wph_take (i := 13) rfl (by kernel_rfl) (by kernel_rfl) (by kernel_rfl) (fun _ _ _ h => h) rfl ht hS (wanted_plain rfl) (fun w hm => ev_assign ht rfl rfl) ?_
      intro a ht
      refine wph_done (by kernel_rfl) ?_
      refine then_normal ?_
      refine wp_ret ?_
      have hres := ht.res (P := Try.prog) (w := w) (rs := [.tmp 8]) (vs := [.slice A9 m11 c10]) (.tmp rfl .nil)
      obtain rfl := Option.some.inj H
      exact leave ht rfl hres ⟨A9, c10, m11, vs12, rfl, ((hm.pick [0] rfl (by decide)).pickφ [0] rfl).post fun _ h => h⟩

/-! ### spec_l02Greatest: function 71 (loop.example/g01362/spec.l02Greatest) -/
def spec_l02Greatest.l0 : Nat → Col → Int → List Int → Option (List Int)
  | 0, _, _, _ => none
  | q3 + 1, x, c, ls0_4 => (spec_l02List.f q3 x c (w64 ((ls0_4.length : Int) + 1)) 1).bind fun t4 => if (t4.length : Int) = 0 then (some ls0_4) else ((getR t4 0).bind fun l10 => spec_l02Greatest.l0 q3 x c l10)
def spec_l02Greatest.f (k : Nat) (x : Col) (c : Int) : Option (List Int) := spec_l02Greatest.l0 k x c ([0])
set_option maxRecDepth 100000 in
set_option maxHeartbeats 1000000 in
theorem spec_l02Greatest.calls (k : Nat) (X : List Nat) (w0 : World)  (x : Col) (c : Int) (r : List Int)
    (hp : Pre X w0 [] []) (H : spec_l02Greatest.f k x c = some r) :
    Calls Try.prog 71 [.agg (Col.cells x).toArray, .int .i64 c].toArray w0 (Ret fun v w => ∃ (A_0 : Option Addr) (c_0 : Nat) (n_0 : Nat), v = .slice A_0 n_0 c_0 ∧ Post X (fps []) w0 [] [IntsAt A_0 c_0 n_0 r] w) := by
  unfold spec_l02Greatest.f at H
  refine enterM (n := 21) hp Try.func71 rfl rfl (Nat.le_of_ble_eq_true rfl) fun a w ht hm => ?_
  refine wp_seq ?_
  refine wpr ?_
  refine wpl_box rfl rfl ht hm rfl rfl rfl ?_
  intro b1 a ht w hm
  refine wpl rfl rfl ht (ev_assign ht rfl rfl) ?_
  intro a ht
  refine wpList_nil ?_
  refine then_normal ?_
  refine wp_seq ?_
  refine wpr ?_
  refine wpl_build_ints (l := [0]) rfl rfl ht hm rfl und_25 zo_2 sz1_2 (by decide) rfl rfl rfl ?_
  intro A2 a ht w hm
  refine wpl rfl rfl ht (ev_assign ht rfl rfl) ?_
  intro a ht
  refine wpList_nil ?_
  refine then_normal ?_
  refine wp_seq ?_
  refine wp_block ?_
  replace hm : Ms _ _ _ _ (IntsAt A2 1 1 ([0]) :: _) w := hm.shutVec 0 rfl
  refine wpLoop (fun q a w => ∃ (ls0_4 : List Int) (As0_1 : Option Addr) (cs0_2 : Nat) (ms0_3 : Nat), spec_l02Greatest.l0 q x c ls0_4 = some r ∧ q ≤ k ∧ Tm 21 [(1, .int .i64 c), (2, .pointer (some ⟨b1, 0, none⟩)), (4, .slice none 0 0), (5, .slice As0_1 ms0_3 cs0_2)] a ∧ Ms X (fps []) w0 [.blk b1 28 (Col.cells x)] [IntsAt As0_1 cs0_2 ms0_3 ls0_4] w) (k0 := k) ⟨([0]), A2, 1, 1, H, Nat.le_refl _, ht.sub ⟨rfl, rfl, rfl, rfl, trivial⟩, (hm.pick [0] rfl (by decide)).pickφ [0] rfl⟩ ?_
  clear H ht hm
  intro q3 a w hJ
  obtain ⟨ls0_4, As0_1, cs0_2, ms0_3, H, hqq3, ht, hm⟩ := hJ
  cases q3 with
  | zero => cases H
  | succ q3 =>
  rw [spec_l02Greatest.l0] at H
  refine wp_block ?_
  refine wp_seq ?_
  refine wpr ?_
  refine wpl rfl rfl ht (ev_load_agg ht rfl rfl (ag_28.trans (by first | rw [Col.length_cells] | rfl)) (hm.blk_all 0 rfl)) ?_
  intro a ht
  refine wpl rfl rfl ht (ev_move ht rfl rfl) ?_
  intro a ht
  refine wpl rfl rfl ht (ev_move ht rfl rfl) ?_
  intro a ht
  refine wpl rfl rfl ht (ev_len_of ht rfl rfl und_25 (hm.fact (φ := IntsAt As0_1 cs0_2 ms0_3 ls0_4) 0 rfl)) ?_
  intro a ht
  refine wpl rfl rfl ht (ev_arith ht rfl rfl rfl rfl) ?_
  intro a ht
  obtain ⟨t4, et4, H⟩ := bind_get H
  have hcall := spec_l02List.calls q3 _ _ x c (w64 ((ls0_4.length : Int) + 1)) 1 _ ((hm.pick (own' := [] ++ [.blk b1 28 (Col.cells x)]) [0] rfl (by decide)).give (passed := []) (rest := [.blk b1 28 (Col.cells x)]) (φp := []) [] rfl) et4
  refine wpl_call _ rfl rfl ht rfl rfl rfl rfl can_79 hcall ?_
  clear hcall
  rintro _ w ⟨A5, c6, m7, vs8, rfl, hpost⟩ a ht
  replace hm := (hm.pick (own' := [] ++ [.blk b1 28 (Col.cells x)]) [0] rfl (by decide)).back hpost
  clear hpost
  refine wpl rfl rfl ht (ev_assign ht rfl rfl) ?_
  intro a ht
  refine wpList_nil ?_
  refine then_normal ?_
  refine wp_seq ?_
  refine wp_seq ?_
  refine wpr ?_
  refine wpl rfl rfl ht (ev_move ht rfl rfl) ?_
  intro a ht
  refine wpl rfl rfl ht (ev_len_rows ht rfl rfl und_49 (hm.rowsOf 0 0 rfl rfl)) ?_
  intro a ht
  refine wpl rfl rfl ht (ev_cmp ht rfl rfl rfl rfl) ?_
  intro a ht
  refine wpList_nil ?_
  refine then_normal ?_
  by_cases h9 : (t4.length : Int) = 0
  · replace H := ite_yes h9 H
    refine wpc_yes ht rfl (decide_eq_true h9) ?_
    refine wp_exit ?_
    refine then_exit ?_
    refine blk_miss (by decide) ?_
    refine then_exit ?_
    refine blk_hit ?_
    refine then_normal ?_
    refine wp_seq ?_
    refine wpr ?_
    refine wpl rfl rfl ht (ev_move ht rfl rfl) ?_
    intro a ht
    refine wpl rfl rfl ht (ev_assign ht rfl rfl) ?_
    intro a ht
    refine wpList_nil ?_
    refine then_normal ?_
    refine wp_ret ?_
    have hres := ht.res (P := Try.prog) (w := w) (rs := [.tmp 4]) (vs := [.slice As0_1 ms0_3 cs0_2]) (.tmp rfl .nil)
    obtain rfl := Option.some.inj H
    exact leave ht rfl hres ⟨As0_1, cs0_2, ms0_3, rfl, ((hm.pick [] rfl (by decide)).pickφ [1] rfl).post fun _ h => h⟩
  · replace H := ite_no h9 H
    refine wpc_no ht rfl (decide_eq_false h9) ?_
    refine wp_skip ?_
    refine then_normal ?_
    refine wpr ?_
    refine wpl rfl rfl ht (ev_move ht rfl rfl) ?_
    intro a ht
    obtain ⟨l10, el10, H⟩ := bind_get H
    refine wpl rfl rfl ht (ev_index_rows ht rfl rfl rfl so_49 (hm.rowsOf 0 0 rfl rfl) el10) ?_
    intro a ht
    obtain ⟨A11, c12, m13, hv14, hI⟩ := rowsAt_get (hm.rowsOf 0 0 rfl rfl) el10
    refine wpl rfl rfl ht (ev_load ht rfl rfl sc_25 (RowsAt.cell (hm.rowsOf 0 0 rfl rfl) hv14)) ?_
    intro a ht
    replace hm : Ms _ _ _ _ (IntsAt A11 c12 m13 l10 :: _) w := hm.addφ ((hm.ro 0 rfl).mono fun w h => allInts_at h hv14 el10)
    clear hI
    refine wpl rfl rfl ht (ev_assign ht rfl rfl) ?_
    intro a ht
    refine wpList_nil ?_
    refine blk_normal ?_
    exact then_normal ⟨q3, by omega, l10, A11, c12, m13, H, by omega, ht.sub ⟨rfl, rfl, rfl, rfl, trivial⟩, (hm.pick [1] rfl (by decide)).pickφ [0] rfl⟩

/-! ### spec_CliqueNumbers: function 28 (loop.example/g01362/spec.CliqueNumbers) -/
def spec_CliqueNumbers.l0 : Nat → Col → List Int → Int → Option (List Int × Int)
  | 0, _, _, _ => none
  | q5 + 1, x, ls0_4, xs0_5 => if xs0_5 < x.k then ((spec_l02Greatest.f q5 x xs0_5).bind fun t7 => (push ls0_4 (t7.length : Int)).bind fun l15 => spec_CliqueNumbers.l0 q5 x l15 (w64 (xs0_5 + 1))) else (some (ls0_4, 0))
def spec_CliqueNumbers.f (k : Nat) (x : Col) : Option (List Int × Int) := (spec_l01Is.f k x).bind fun t2 => if t2 = true then (spec_CliqueNumbers.l0 k x ([] : List Int) 0) else (some (([] : List Int), 1))
set_option maxRecDepth 100000 in
set_option maxHeartbeats 1000000 in
theorem spec_CliqueNumbers.calls (k : Nat) (X : List Nat) (w0 : World)  (x : Col) (r : List Int × Int)
    (hp : Pre X w0 [] []) (H : spec_CliqueNumbers.f k x = some r) :
    Calls Try.prog 28 [.agg (Col.cells x).toArray].toArray w0 (Ret fun v w => ∃ (A_0 : Option Addr) (c_0 : Nat) (n_0 : Nat), v = .tuple [.slice A_0 n_0 c_0, .int .i64 r.2].toArray ∧ Post X (fps []) w0 [.vec A_0 c_0 2 1 n_0 (ints r.1)] [] w) := by
  unfold spec_CliqueNumbers.f at H
  refine enterM (n := 24) hp Try.func28 rfl rfl (Nat.le_of_ble_eq_true rfl) fun a w ht hm => ?_
  refine wp_seq ?_
  refine wpr ?_
  refine wpl_box rfl rfl ht hm rfl rfl rfl ?_
  intro b1 a ht w hm
  refine wpl rfl rfl ht (ev_assign ht rfl rfl) ?_
  intro a ht
  refine wpl rfl rfl ht (ev_assign ht rfl rfl) ?_
  intro a ht
  refine wpList_nil ?_
  refine then_normal ?_
  refine wp_seq ?_
  refine wp_seq ?_
  refine wpr ?_
  refine wpl rfl rfl ht (ev_load_agg ht rfl rfl (ag_28.trans (by first | rw [Col.length_cells] | rfl)) (hm.blk_all 0 rfl)) ?_
  intro a ht
  obtain ⟨t2, et2, H⟩ := bind_get H
  have hcall := spec_l01Is.calls k _ _ x _ ((fun (hq : Ms _ _ _ ([] ++ [.blk b1 28 (Col.cells x)]) _ _) => hq.lend (φp := []) (allRO_nil)) (hm.pick (own' := [] ++ [.blk b1 28 (Col.cells x)]) [0] rfl (by decide))) et2
  refine wpl_call _ rfl rfl ht rfl rfl rfl rfl can_68 hcall ?_
  clear hcall
  rintro _ w ⟨rfl, hpost⟩ a ht
  replace hm := (hm.pick (own' := [] ++ [.blk b1 28 (Col.cells x)]) [0] rfl (by decide)).backL hpost
  clear hpost
  refine wpl rfl rfl ht (ev_not ht rfl rfl) ?_
  intro a ht
  refine wpList_nil ?_
  refine then_normal ?_
  by_cases h3 : t2 = true
  · replace H := ite_yes h3 H
    refine wpc_no ht rfl (not_t h3) ?_
    refine wp_skip ?_
    refine then_normal ?_
    refine wp_seq ?_
    refine wpr ?_
    refine wpl_build_ints (l := ([] : List Int)) rfl rfl ht hm rfl und_25 zo_2 sz1_2 (by decide) rfl rfl rfl ?_
    intro A4 a ht w hm
    refine wpl rfl rfl ht (ev_assign ht rfl rfl) ?_
    intro a ht
    refine wpList_nil ?_
    refine then_normal ?_
    refine wp_seq ?_
    refine wp_seq ?_
    refine wpr ?_
    refine wpl rfl rfl ht (ev_assign ht rfl rfl) ?_
    intro a ht
    refine wpList_nil ?_
    refine then_normal ?_
    refine wp_block ?_
    refine wpLoop (fun q a w => ∃ (ls0_4 : List Int) (xs0_5 : Int) (As0_1 : Option Addr) (cs0_2 : Nat) (ms0_3 : Nat), spec_CliqueNumbers.l0 q x ls0_4 xs0_5 = some r ∧ q ≤ k ∧ Tm 24 [(1, .pointer (some ⟨b1, 0, none⟩)), (2, .slice none 0 0), (3, .int .i64 0), (4, .slice As0_1 ms0_3 cs0_2), (5, .int .i64 xs0_5)] a ∧ Ms X (fps []) w0 [.vec As0_1 cs0_2 2 1 ms0_3 (ints ls0_4), .blk b1 28 (Col.cells x)] [] w) (k0 := k) ⟨([] : List Int), 0, A4, 0, 0, H, Nat.le_refl _, ht.sub ⟨rfl, rfl, rfl, rfl, rfl, trivial⟩, (hm.pick [0, 1] rfl (by decide)).pickφ [] rfl⟩ ?_
    clear H ht hm
    intro q5 a w hJ
    obtain ⟨ls0_4, xs0_5, As0_1, cs0_2, ms0_3, H, hqq5, ht, hm⟩ := hJ
    cases q5 with
    | zero => cases H
    | succ q5 =>
    rw [spec_CliqueNumbers.l0] at H
    refine wp_seq ?_
    refine wp_seq ?_
    refine wpr ?_
    refine wpl rfl rfl ht (ev_move ht rfl rfl) ?_
    intro a ht
    refine wpl rfl rfl ht (ev_fieldAddr ht rfl rfl fo_28_1) ?_
    intro a ht
    refine wpl rfl rfl ht (ev_load ht rfl rfl sc_2 (hm.blk_cell 1 rfl rfl)) ?_
    intro a ht
    refine wpl rfl rfl ht (ev_cmp ht rfl rfl rfl rfl) ?_
    intro a ht
    refine wpList_nil ?_
    refine then_normal ?_
    by_cases h6 : xs0_5 < x.k
    · replace H := ite_yes h6 H
      refine wpc_yes ht rfl (decide_eq_true h6) ?_
      refine wp_skip ?_
      refine then_normal ?_
      refine wp_seq ?_
      refine wp_block ?_
      refine wpr ?_
      refine wpl rfl rfl ht (ev_move ht rfl rfl) ?_
      intro a ht
      refine wpl rfl rfl ht (ev_load_agg ht rfl rfl (ag_28.trans (by first | rw [Col.length_cells] | rfl)) (hm.blk_all 1 rfl)) ?_
      intro a ht
      refine wpl rfl rfl ht (ev_move ht rfl rfl) ?_
      intro a ht
      obtain ⟨t7, et7, H⟩ := bind_get H
      have hcall := spec_l02Greatest.calls q5 _ _ x xs0_5 _ ((hm.pick (own' := [] ++ [.vec As0_1 cs0_2 2 1 ms0_3 (ints ls0_4), .blk b1 28 (Col.cells x)]) [0, 1] rfl (by decide)).give (passed := []) (rest := [.vec As0_1 cs0_2 2 1 ms0_3 (ints ls0_4), .blk b1 28 (Col.cells x)]) (φp := []) [] rfl) et7
      refine wpl_call _ rfl rfl ht rfl rfl rfl rfl can_71 hcall ?_
      clear hcall
      rintro _ w ⟨A8, c9, m10, rfl, hpost⟩ a ht
      replace hm := (hm.pick (own' := [] ++ [.vec As0_1 cs0_2 2 1 ms0_3 (ints ls0_4), .blk b1 28 (Col.cells x)]) [0, 1] rfl (by decide)).back hpost
      clear hpost
      refine wpl rfl rfl ht (ev_len_of ht rfl rfl und_25 (hm.fact (φ := IntsAt A8 c9 m10 t7) 0 rfl)) ?_
      intro a ht
      refine wpl_build_ints (l := [(t7.length : Int)]) rfl rfl ht hm rfl und_25 zo_2 sz1_2 (by decide) rfl rfl rfl ?_
      intro A11 a ht w hm
      obtain ⟨l15, el15, H⟩ := bind_get H
      refine wpl_push (r := l15) 1 0 rfl rfl ht hm rfl ap_25 rfl rfl rfl rfl el15 ?_
      intro A12 c13 m14 a ht w hm
      refine wpl rfl rfl ht (ev_assign ht rfl rfl) ?_
      intro a ht
      refine wpList_nil ?_
      refine blk_normal ?_
      refine then_normal ?_
      refine wpr ?_
      refine wpl rfl rfl ht (ev_move ht rfl rfl) ?_
      intro a ht
      refine wpl rfl rfl ht (ev_arith ht rfl rfl rfl rfl) ?_
      intro a ht
      refine wpl rfl rfl ht (ev_assign ht rfl rfl) ?_
      intro a ht
      refine wpList_nil ?_
      exact then_normal ⟨q5, by omega, l15, (w64 (xs0_5 + 1)), A12, c13, m14, H, by omega, ht.sub ⟨rfl, rfl, rfl, rfl, rfl, trivial⟩, (hm.pick [1, 2] rfl (by decide)).pickφ [] rfl⟩
    · replace H := ite_no h6 H
      refine wpc_no ht rfl (decide_eq_false h6) ?_
      refine wp_exit ?_
      refine then_exit ?_
      refine then_exit ?_
      refine blk_hit ?_
      refine then_normal ?_
      refine wp_seq ?_
      refine wpr ?_
      refine wpl rfl rfl ht (ev_move ht rfl rfl) ?_
      intro a ht
      refine wpl rfl rfl ht (ev_assign ht rfl rfl) ?_
      intro a ht
      refine wpl rfl rfl ht (ev_assign ht rfl rfl) ?_
      intro a ht
      refine wpList_nil ?_
      refine then_normal ?_
      refine wp_ret ?_
      have hres := ht.res (P := Try.prog) (w := w) (rs := [.tmp 2, .tmp 3]) (vs := [.slice As0_1 ms0_3 cs0_2, .int .i64 0]) (.tmp rfl (.tmp rfl .nil))
      obtain rfl := Option.some.inj H
      exact leave ht rfl hres ⟨As0_1, cs0_2, ms0_3, rfl, ((hm.pick [0] rfl (by decide)).pickφ [] rfl).post fun _ h => h⟩
  · replace H := ite_no h3 H
    refine wpc_yes ht rfl (not_f (Bool.eq_false_iff.mpr h3)) ?_
    refine wp_seq ?_
    refine wpr ?_
    refine wpl rfl rfl ht (ev_assign ht rfl rfl) ?_
    intro a ht
    refine wpl rfl rfl ht (ev_assign ht rfl rfl) ?_
    intro a ht
    refine wpList_nil ?_
    refine then_normal ?_
    refine wp_ret ?_
    refine then_ret ?_
    have hres := ht.res (P := Try.prog) (w := w) (rs := [.tmp 2, .tmp 3]) (vs := [.slice none 0 0, .int .i64 1]) (.tmp rfl (.tmp rfl .nil))
    replace hm : Ms _ _ _ (.vec none 0 2 1 0 (ints ([] : List Int)) :: _) _ w := hm.nilVec none 2 1
    obtain rfl := Option.some.inj H
    exact leave ht rfl hres ⟨none, 0, 0, rfl, ((hm.pick [0] rfl (by decide)).pickφ [] rfl).post fun _ h => h⟩

/-! ### impl_in: function 61 (loop.example/g01362/impl.in) -/
def impl_in.f (n_ : Int) (low : Int) (high : Int) : Option (Bool) := if n_ ≥ low then (some (decide (n_ ≤ high))) else (some false)
set_option maxRecDepth 100000 in
set_option maxHeartbeats 1000000 in
theorem impl_in.calls (X : List Nat) (w0 : World)  (n_ : Int) (low : Int) (high : Int) (r : Bool)
    (hp : Pre X w0 [] []) (H : impl_in.f n_ low high = some r) :
    Calls Try.prog 61 [.int .i64 n_, .int .i64 low, .int .i64 high].toArray w0 (Ret fun v w => v = .bool r ∧ Post X (fps []) w0 [] [] w) := by
  unfold impl_in.f at H
  refine enterM (n := 15) hp Try.func61 rfl rfl (Nat.le_of_ble_eq_true rfl) fun a w ht hm => ?_
  refine wp_seq ?_
  refine wpr ?_
  refine wpl rfl rfl ht (ev_assign ht rfl rfl) ?_
  intro a ht
  refine wpList_nil ?_
  refine then_normal ?_
  refine wp_seq ?_
  refine wpr ?_
  refine wpl rfl rfl ht (ev_move ht rfl rfl) ?_
  intro a ht
  refine wpl rfl rfl ht (ev_move ht rfl rfl) ?_
  intro a ht
  refine wpl rfl rfl ht (ev_cmp ht rfl rfl rfl rfl) ?_
  intro a ht
  refine wpl rfl rfl ht (ev_move ht rfl rfl) ?_
  intro a ht
  by_cases h1 : n_ ≥ low
  · replace H := ite_yes h1 H
    refine wpl_yes rfl ht rfl ((decide_eq_true h1)) ?_
    refine wpl rfl rfl ht (ev_move ht rfl rfl) ?_
    intro a ht
    refine wpl_yes rfl ht rfl ((decide_eq_true h1)) ?_
    refine wpl rfl rfl ht (ev_move ht rfl rfl) ?_
    intro a ht
    refine wpl_yes rfl ht rfl ((decide_eq_true h1)) ?_
    refine wpl rfl rfl ht (ev_cmp ht rfl rfl rfl rfl) ?_
    intro a ht
    refine wpl rfl rfl ht (ev_pick_yes ht rfl rfl (decide_eq_true h1) rfl) ?_
    intro a ht
    refine wpl rfl rfl ht (ev_assign ht rfl rfl) ?_
    intro a ht
    refine wpList_nil ?_
    refine then_normal ?_
    refine wp_ret ?_
    have hres := ht.res (P := Try.prog) (w := w) (rs := [.tmp 6]) (vs := [.bool (decide (n_ ≤ high))]) (.tmp rfl .nil)
    obtain rfl := Option.some.inj H
    exact leave ht rfl hres ⟨rfl, ((hm.pick [] rfl (by decide)).pickφ [] rfl).post fun _ h => h⟩
  · replace H := ite_no h1 H
    refine wpl_no rfl rfl ht rfl (by rw [(decide_eq_false h1)]; decide) ?_
    intro a ht
    refine wpl_no rfl rfl ht rfl (by rw [(decide_eq_false h1)]; decide) ?_
    intro a ht
    refine wpl_no rfl rfl ht rfl (by rw [(decide_eq_false h1)]; decide) ?_
    intro a ht
    refine wpl rfl rfl ht (ev_pick_no ht rfl rfl (decide_eq_false h1) rfl) ?_
    intro a ht
    refine wpl rfl rfl ht (ev_assign ht rfl rfl) ?_
    intro a ht
    refine wpList_nil ?_
    refine then_normal ?_
    refine wp_ret ?_
    have hres := ht.res (P := Try.prog) (w := w) (rs := [.tmp 6]) (vs := [.bool false]) (.tmp rfl .nil)
    obtain rfl := Option.some.inj H
    exact leave ht rfl hres ⟨rfl, ((hm.pick [] rfl (by decide)).pickφ [] rfl).post fun _ h => h⟩

/-! ### impl_Colouring_edges: function 122 ((*loop.example/g01362/impl.Colouring).edges) -/
def impl_Colouring_edges.f (x : Col) : Option (Int) := some (w64 (Int.tdiv (w64 (x.p * (w64 (x.p - 1)))) 2))
set_option maxRecDepth 100000 in
set_option maxHeartbeats 1000000 in
theorem impl_Colouring_edges.calls (X : List Nat) (w0 : World) (b : Nat) (x : Col) (r : Int)
    (hp : Pre X w0 [.blk b 28 (Col.cells x)] []) (H : impl_Colouring_edges.f x = some r) :
    Calls Try.prog 122 [.pointer (some ⟨b, 0, none⟩)].toArray w0 (Ret fun v w => v = .int .i64 r ∧ Post X (fps [.blk b 28 (Col.cells x)]) w0 [.blk b 28 (Col.cells x)] [] w) := by
  unfold impl_Colouring_edges.f at H
  refine enterM (n := 14) hp Try.func122 rfl rfl (Nat.le_of_ble_eq_true rfl) fun a w ht hm => ?_
  refine wp_seq ?_
  refine wpr ?_
  refine wpl rfl rfl ht (ev_assign ht rfl rfl) ?_
  intro a ht
  refine wpList_nil ?_
  refine then_normal ?_
  refine wp_seq ?_
  refine wph_begin (fun w => Ms X (fps [.blk b 28 (Col.cells x)]) w0 [.blk b 28 (Col.cells x)] [] w) mixed ?_
  replace hm := hm.drew
  have hS : Ms X (fps [.blk b 28 (Col.cells x)]) w0 [.blk b 28 (Col.cells x)] [] w.drew := (hm.pick [0] rfl (by decide)).pickφ [] rfl
  generalize w.drew = w at hm hS ⊢
  refine wph_take (i := 0) rfl (by kernel_rfl) (by kernel_rfl) (by kernel_rfl) (fun _ _ _ h => h) rfl ht hS (wanted_plain rfl) (fun w hm => ev_move ht rfl rfl) ?_
  intro a ht
  refine wph_take (i := 1) rfl (by kernel_rfl) (by kernel_rfl) (by kernel_rfl) (fun _ _ _ h => h) rfl ht hS (wanted_plain rfl) (fun w hm => ev_nilCheck ht rfl rfl) ?_
  intro a ht
  refine wph_take (i := 2) rfl (by kernel_rfl) (by kernel_rfl) (by kernel_rfl) (fun _ _ _ h => h) rfl ht hS (wanted_plain rfl) (fun w hm => ev_fieldAddr ht rfl rfl fo_28_0) ?_
  intro a ht
  refine wph_take (i := 3) rfl (by kernel_rfl) (by kernel_rfl) (by kernel_rfl) (fun _ _ _ h => h) rfl ht hS (wanted_plain rfl) (fun w hm => ev_load ht rfl rfl sc_2 (hm.blk_cell 0 rfl rfl)) ?_
  intro a ht
  refine wph_take (i := 4) rfl (by kernel_rfl) (by kernel_rfl) (by kernel_rfl) (fun _ _ _ h => h) rfl ht hS (wanted_plain rfl) (fun w hm => ev_move ht rfl rfl) ?_
  intro a ht
  refine wph_take (i := 5) rfl (by kernel_rfl) (by kernel_rfl) (by kernel_rfl) (fun _ _ _ h => h) rfl ht hS (wanted_plain rfl) (fun w hm => ev_nilCheck ht rfl rfl) ?_
  intro a ht
  refine wph_take (i := 6) rfl (by kernel_rfl) (by kernel_rfl) (by kernel_rfl) (fun _ _ _ h => h) rfl ht hS (wanted_plain rfl) (fun w hm => ev_fieldAddr ht rfl rfl fo_28_0) ?_
  intro a ht
  refine wph_take (i := 7) rfl (by kernel_rfl) (by kernel_rfl) (by kernel_rfl) (fun _ _ _ h => h) rfl ht hS (wanted_plain rfl) (fun w hm => ev_load ht rfl rfl sc_2 (hm.blk_cell 0 rfl rfl)) ?_
  intro a ht
  refine wph_take (i := 8) rfl (by kernel_rfl) (by kernel_rfl) (by kernel_rfl) (fun _ _ _ h => h) rfl ht hS (wanted_plain rfl) (fun w hm => ev_arith ht rfl rfl rfl rfl) ?_
  intro a ht
  refine wph_take (i := 9) rfl (by kernel_rfl) (by kernel_rfl) (by kernel_rfl) (fun _ _ _ h => h) rfl ht hS (wanted_plain rfl) (fun w hm => ev_arith ht rfl rfl rfl rfl) ?_
  intro a ht
  refine wph_take (i := 10) rfl (by kernel_rfl) (by kernel_rfl) (by kernel_rfl) (fun _ _ _ h => h) rfl ht hS (wanted_plain rfl) (fun w hm => ev_quo ht rfl rfl rfl (by decide)) ?_
  intro a ht
  refine wph_take (i := 11) rfl (by kernel_rfl) (by kernel_rfl) (by kernel_rfl) (fun _ _ _ h => h) rfl ht hS (wanted_plain rfl) (fun w hm => ev_assign ht rfl rfl) ?_
  intro a ht
  refine wph_done (by kernel_rfl) ?_
  refine then_normal ?_
  refine wp_ret ?_
  have hres := ht.res (P := Try.prog) (w := w) (rs := [.tmp 2]) (vs := [.int .i64 (w64 (Int.tdiv (w64 (x.p * (w64 (x.p - 1)))) 2))]) (.tmp rfl .nil)
  obtain rfl := Option.some.inj H
  exact leave ht rfl hres ⟨rfl, ((hm.pick [0] rfl (by decide)).pickφ [] rfl).post fun _ h => h⟩

end Go.Proofs.Ytdpamdedomkomaa.G
