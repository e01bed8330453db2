/- What each Go function computes, as a Lean function, and the proof that it does: written by a program of this session (wip/gen), part 9. -/
import Derived.Test.YtbgniopmmankdaaGFnExactPointOrbits8
namespace Go.Proofs.Ytbgniopmmankdaa.G
open Go Go.RowKit Go.Proofs.Ytbgniopmmankdaa.K
set_option linter.unusedVariables false
set_option linter.unusedSimpArgs false

/-! ### impl_Colouring_isMoved: function 39 ((*loop.example/g01362/impl.Colouring).isMoved) -/
def impl_Colouring_isMoved.f (k : Nat) (x : Col) (i : Int) (j : Int) : Option (Bool) := (impl_Colouring_that__Colouring_isMoved_1.f k x i).bind fun t6502 => (concat ([i]) t6502).bind fun l7505 => (impl_newTracer.f k x l7505).bind fun t8502 => (guardO (0 ≤ i ∧ i < 17)).bind fun _ => (guardO (0 ≤ j ∧ j < 17)).bind fun _ => if (t8502.2 (i.toNat * 17 + j.toNat)) = true then ((guardO (([] : List Int).length < 17)).bind fun _ => (push ([] : List Int) j).bind fun l11011 => (impl_tracer_all__Colouring_isMoved_2.f k x t8502.1 t8502.2 l11011).bind fun t11012 => some !t11012) else (some false)
set_option maxRecDepth 100000 in
set_option maxHeartbeats 20000000 in
theorem impl_Colouring_isMoved.calls (k : Nat) (X : List Nat) (w0 : World) (b : Nat) (x : Col) (i : Int) (j : Int) (r : Bool)
    (hp : Pre X w0 [.blk b 27 (Col.cells x)] []) (H : impl_Colouring_isMoved.f k x i j = some r) :
    Calls Try.prog 39 [.pointer (some ⟨b, 0, none⟩), .int .i64 i, .int .i64 j].toArray w0 (Ret fun v w => v = .bool r ∧ Post X (fps [.blk b 27 (Col.cells x)]) w0 [.blk b 27 (Col.cells x)] [] w) := by
  unfold impl_Colouring_isMoved.f at H
  refine enterM (n := 35) hp Try.func39 rfl rfl (Nat.le_of_ble_eq_true rfl) fun a w ht hm => ?_
  refine wp_seq ?_
  refine wpr ?_
  refine wpl_box rfl rfl ht hm rfl rfl rfl ?_
  intro b1 a ht w hm
  refine wpl rfl rfl ht (ev_assign ht rfl rfl) ?_
  intro a ht
  refine wpList_nil ?_
  refine then_normal ?_
  refine wp_seq ?_
  refine wph_begin (fun w => Ms X (fps [.blk b 27 (Col.cells x)]) w0 [.blk b1 2 [.int .i64 i], .blk b 27 (Col.cells x)] [] w) mixed ?_
  replace hm := hm.drew
  have hS : Ms X (fps [.blk b 27 (Col.cells x)]) w0 [.blk b1 2 [.int .i64 i], .blk b 27 (Col.cells x)] [] w.drew := (hm.pick [0, 1] rfl (by decide)).pickφ [] rfl
  generalize w.drew = w at hm hS ⊢
  refine wph_take (i := 0) rfl (by kernel_rfl) (by kernel_rfl) (by kernel_rfl) (fun _ _ _ h => h) rfl ht hS (wanted_plain rfl) (fun w hm => ev_move ht rfl rfl) ?_
  intro a ht
  refine wph_take (i := 1) rfl (by kernel_rfl) (by kernel_rfl) (by kernel_rfl) (fun _ _ _ h => h) rfl ht hS (wanted_plain rfl) (fun w hm => ev_move ht rfl rfl) ?_
  intro a ht
  refine wph_take (i := 2) rfl (by kernel_rfl) (by kernel_rfl) (by kernel_rfl) (fun _ _ _ h => h) rfl ht hS (wanted_plain rfl) (fun w hm => ev_load ht rfl rfl sc_2 (hm.blk_cell 0 rfl rfl)) ?_
  intro a ht
  refine wph_take (i := 4) rfl (by kernel_rfl) (by kernel_rfl) (by kernel_rfl) (fun _ _ _ h => h) rfl ht hS (wanted_plain rfl) (fun w hm => ev_move ht rfl rfl) ?_
  intro a ht
  refine wph_take (i := 5) rfl (by kernel_rfl) (by kernel_rfl) (by kernel_rfl) (fun _ _ _ h => h) rfl ht hS (wanted_plain rfl) (fun w hm => ev_makeFunc ht rfl rfl rfl) ?_
  intro a ht
  refine wph_two (i := 3) (j := 6) (by kernel_rfl) ?_ ?_ 
  · refine wph_step rfl ?_
    refine wpl_build_ints (l := [i]) rfl rfl ht hm rfl und_43 zo_2 sz1_2 (by decide) rfl rfl rfl ?_
    intro A3502 a ht w hm
    have hS : Ms X (fps [.blk b 27 (Col.cells x)]) w0 [.blk b1 2 [.int .i64 i], .blk b 27 (Col.cells x)] [] w := (hm.pick [1, 2] rfl (by decide)).pickφ [] rfl
    refine wpList_nil (qn ⟨hS, ?_⟩)
    refine wph_one (i := 6) (by kernel_rfl) (wph_step rfl ?_)
    obtain ⟨t6502, et6502, H⟩ := bind_get H
    have hcall := impl_Colouring_that__Colouring_isMoved_1.calls k _ _ b b1 x i _ ((fun (hq : Ms _ _ _ ([.blk b 27 (Col.cells x), .blk b1 2 [.int .i64 i]] ++ [.vec A3502 1 2 1 1 (ints ([i]))]) _ _) => hq.lend (φp := []) (allRO_nil)) (hm.pick (own' := [.blk b 27 (Col.cells x), .blk b1 2 [.int .i64 i]] ++ [.vec A3502 1 2 1 1 (ints ([i]))]) [2, 1, 0] rfl (by decide))) et6502
    refine wpl_call _ rfl rfl ht rfl rfl rfl rfl can_60 hcall ?_
    clear hcall
    rintro _ w ⟨A6503, c6504, m6505, rfl, hpost⟩ a ht
    replace hm := (hm.pick (own' := [.blk b 27 (Col.cells x), .blk b1 2 [.int .i64 i]] ++ [.vec A3502 1 2 1 1 (ints ([i]))]) [2, 1, 0] rfl (by decide)).backL hpost
    clear hpost
    have hS : Ms X (fps [.blk b 27 (Col.cells x)]) w0 [.blk b1 2 [.int .i64 i], .blk b 27 (Col.cells x)] [] w := (hm.pick [2, 1] rfl (by decide)).pickφ [] rfl
    refine wpList_nil (qn ⟨hS, ?_⟩)
    refine wph_one (i := 7) (by kernel_rfl) (wph_step rfl ?_)
    obtain ⟨l7505, el7505, H⟩ := bind_get H
    refine wpl_concat (r := l7505) 3 rfl rfl ht hm rfl ap_43 rfl rfl rfl (hm.vec_row 0 rfl) el7505 ?_
    intro A7502 c7503 m7504 a ht w hm
    have hS : Ms X (fps [.blk b 27 (Col.cells x)]) w0 [.blk b1 2 [.int .i64 i], .blk b 27 (Col.cells x)] [] w := (hm.pick [2, 1] rfl (by decide)).pickφ [] rfl
    refine wpList_nil (qn ⟨hS, ?_⟩)
    refine wph_one (i := 8) (by kernel_rfl) (wph_step rfl ?_)
    replace hm : Ms _ _ _ _ (IntsAt A7502 c7503 m7504 l7505 :: _) w := hm.shutVec 3 rfl
    obtain ⟨t8502, et8502, H⟩ := bind_get H
    have hcall := impl_newTracer.calls k _ _ b A7502 c7503 m7504 x l7505 _ ((hm.pick (own' := [.blk b 27 (Col.cells x)] ++ [.vec A6503 c6504 2 1 m6505 (ints t6502), .blk b1 2 [.int .i64 i]]) [1, 0, 2] rfl (by decide)).give (passed := [.blk b 27 (Col.cells x)]) (rest := [.vec A6503 c6504 2 1 m6505 (ints t6502), .blk b1 2 [.int .i64 i]]) (φp := [IntsAt A7502 c7503 m7504 l7505]) [0] rfl) et8502
    refine wpl_call _ rfl rfl ht rfl rfl rfl rfl can_47 hcall ?_
    clear hcall
    rintro _ w ⟨b8503, A8504, c8505, m8506, rfl, hpost⟩ a ht
    replace hm := (hm.pick (own' := [.blk b 27 (Col.cells x)] ++ [.vec A6503 c6504 2 1 m6505 (ints t6502), .blk b1 2 [.int .i64 i]]) [1, 0, 2] rfl (by decide)).back hpost
    clear hpost
    have hS : Ms X (fps [.blk b 27 (Col.cells x)]) w0 [.blk b1 2 [.int .i64 i], .blk b 27 (Col.cells x)] [] w := (hm.pick [3, 1] rfl (by decide)).pickφ [] rfl
    refine wpList_nil (qn ⟨hS, ?_⟩)
    refine wph_take (i := 9) rfl (by kernel_rfl) (by kernel_rfl) (by kernel_rfl) (fun _ _ _ h => h) rfl ht hS (wanted_plain rfl) (fun w hm => ev_assign ht rfl rfl) ?_
    intro a ht
    refine wph_done (by kernel_rfl) ?_
    replace hm := hm.pick (own' := [.vec A6503 c6504 2 1 m6505 (ints t6502), .blk b8503 86 ([.pointer (some ⟨b, 0, none⟩), .pointer (some ⟨b, 0, none⟩), .slice A8504 m8506 c8505] ++ (gridC 289 t8502.2)), .blk b 27 (Col.cells x), .blk b1 2 [.int .i64 i]]) [2, 0, 1, 3] rfl (by decide)
    refine then_normal ?_
    refine wp_seq ?_
    refine wp_seq ?_
    refine wph_begin (fun w => Ms X (fps [.blk b 27 (Col.cells x)]) w0 [.vec A6503 c6504 2 1 m6505 (ints t6502), .blk b8503 86 ([.pointer (some ⟨b, 0, none⟩), .pointer (some ⟨b, 0, none⟩), .slice A8504 m8506 c8505] ++ (gridC 289 t8502.2)), .blk b 27 (Col.cells x), .blk b1 2 [.int .i64 i]] [IntsAt A8504 c8505 m8506 t8502.1, IntsAt A7502 c7503 m7504 l7505] w) mixed ?_
    replace hm := hm.drew
    have hS : Ms X (fps [.blk b 27 (Col.cells x)]) w0 [.vec A6503 c6504 2 1 m6505 (ints t6502), .blk b8503 86 ([.pointer (some ⟨b, 0, none⟩), .pointer (some ⟨b, 0, none⟩), .slice A8504 m8506 c8505] ++ (gridC 289 t8502.2)), .blk b 27 (Col.cells x), .blk b1 2 [.int .i64 i]] [IntsAt A8504 c8505 m8506 t8502.1, IntsAt A7502 c7503 m7504 l7505] w.drew := (hm.pick [0, 1, 2, 3] rfl (by decide)).pickφ [0, 1] rfl
    generalize w.drew = w at hm hS ⊢
    refine wph_take (i := 0) rfl (by kernel_rfl) (by kernel_rfl) (by kernel_rfl) (fun _ _ _ h => h) rfl ht hS (wanted_plain rfl) (fun w hm => ev_move ht rfl rfl) ?_
    intro a ht
    refine wph_take (i := 1) rfl (by kernel_rfl) (by kernel_rfl) (by kernel_rfl) (fun _ _ _ h => h) rfl ht hS (wanted_plain rfl) (fun w hm => ev_load ht rfl rfl sc_2 (hm.blk_cell 3 rfl rfl)) ?_
    intro a ht
    refine wph_take (i := 2) rfl (by kernel_rfl) (by kernel_rfl) (by kernel_rfl) (fun _ _ _ h => h) rfl ht hS (wanted_plain rfl) (fun w hm => ev_move ht rfl rfl) ?_
    intro a ht
    refine wph_take (i := 3) rfl (by kernel_rfl) (by kernel_rfl) (by kernel_rfl) (fun _ _ _ h => h) rfl ht hS (wanted_plain rfl) (fun w hm => ev_nilCheck ht rfl rfl) ?_
    intro a ht
    refine wph_take (i := 4) rfl (by kernel_rfl) (by kernel_rfl) (by kernel_rfl) (fun _ _ _ h => h) rfl ht hS (wanted_plain rfl) (fun w hm => ev_fieldAddr ht rfl rfl fo_86_3) ?_
    intro a ht
    obtain ⟨u11002, eu11002, H⟩ := bind_get H
    refine wph_take (i := 5) rfl (by kernel_rfl) (by kernel_rfl) (by kernel_rfl) (fun _ _ _ h => h) rfl ht hS (wanted_plain rfl) (fun w hm => ev_indexAddr_arr ht rfl rfl rfl ar_84 (guardO_get eu11002).1 (by have := (guardO_get eu11002); omega)) ?_
    intro a ht
    obtain ⟨u11003, eu11003, H⟩ := bind_get H
    refine wph_take (i := 6) rfl (by kernel_rfl) (by kernel_rfl) (by kernel_rfl) (fun _ _ _ h => h) rfl ht hS (wanted_plain rfl) (fun w hm => ev_indexAddr_arr ht rfl rfl rfl ar_83 (guardO_get eu11003).1 (by have := (guardO_get eu11003); omega)) ?_
    intro a ht
    refine wph_take (i := 7) rfl (by kernel_rfl) (by kernel_rfl) (by kernel_rfl) (fun _ _ _ h => h) rfl ht hS (wanted_plain rfl) (fun w hm => ev_load ht rfl rfl sc_4 (hm.blk_cell 1 rfl (grid_get (guardO_get eu11002) (guardO_get eu11003)))) ?_
    intro a ht
    refine wph_take (i := 8) rfl (by kernel_rfl) (by kernel_rfl) (by kernel_rfl) (fun _ _ _ h => h) rfl ht hS (wanted_plain rfl) (fun w hm => ev_not ht rfl rfl) ?_
    intro a ht
    refine wph_done (by kernel_rfl) ?_
    refine then_normal ?_
    by_cases h11004 : (t8502.2 (i.toNat * 17 + j.toNat)) = true
    · replace H := ite_yes h11004 H
      refine wpc_no ht rfl (not_t h11004) ?_
      refine wp_skip ?_
      refine then_normal ?_
      refine wp_seq ?_
      refine wpr ?_
      refine wpl_make_cap (c := 17) rfl rfl ht hm rfl und_43 zo_2 sz1_2 by_2 rfl rfl (by decide) ?_
      intro A11005 a ht w hm
      refine wpl rfl rfl ht (ev_assign ht rfl rfl) ?_
      intro a ht
      refine wpList_nil ?_
      refine then_normal ?_
      refine wp_seq ?_
      refine wpr ?_
      refine wpl rfl rfl ht (ev_move ht rfl rfl) ?_
      intro a ht
      refine wpl rfl rfl ht (ev_move ht rfl rfl) ?_
      intro a ht
      refine wpl rfl rfl ht (ev_move ht rfl rfl) ?_
      intro a ht
      refine wpl_build_ints (l := [j]) rfl rfl ht hm rfl und_43 zo_2 sz1_2 (by decide) rfl rfl rfl ?_
      intro A11006 a ht w hm
      obtain ⟨u11010, eu11010, H⟩ := bind_get H
      obtain ⟨l11011, el11011, H⟩ := bind_get H
      refine wpl_push_in (r := l11011) 1 0 rfl rfl ht hm rfl ap_43 rfl rfl rfl rfl (guardO_get eu11010) el11011 ?_
      intro a ht w hm
      obtain ⟨t11012, et11012, H⟩ := bind_get H
      have hcall := impl_tracer_all__Colouring_isMoved_2.calls k _ _ b8503 b A8504 c8505 m8506 A11005 (0 + 1) x t8502.1 t8502.2 l11011 _ ((fun (hq : Ms _ _ _ ([.blk b8503 86 ([.pointer (some ⟨b, 0, none⟩), .pointer (some ⟨b, 0, none⟩), .slice A8504 m8506 c8505] ++ (gridC 289 t8502.2)), .blk b 27 (Col.cells x), .vec A11005 17 2 1 (0 + 1) (ints l11011)] ++ [.vec A11006 1 2 1 1 (ints ([j])), .vec A6503 c6504 2 1 m6505 (ints t6502), .blk b1 2 [.int .i64 i]]) _ _) => hq.lend (φp := [IntsAt A8504 c8505 m8506 t8502.1]) (allRO_cons (hq.lendFact 0 rfl) (allRO_nil))) (hm.pick (own' := [.blk b8503 86 ([.pointer (some ⟨b, 0, none⟩), .pointer (some ⟨b, 0, none⟩), .slice A8504 m8506 c8505] ++ (gridC 289 t8502.2)), .blk b 27 (Col.cells x), .vec A11005 17 2 1 (0 + 1) (ints l11011)] ++ [.vec A11006 1 2 1 1 (ints ([j])), .vec A6503 c6504 2 1 m6505 (ints t6502), .blk b1 2 [.int .i64 i]]) [3, 4, 1, 0, 2, 5] rfl (by decide))) et11012
      refine wpl_call _ rfl rfl ht rfl rfl rfl rfl can_49 hcall ?_
      clear hcall
      rintro _ w ⟨rfl, hpost⟩ a ht
      replace hm := (hm.pick (own' := [.blk b8503 86 ([.pointer (some ⟨b, 0, none⟩), .pointer (some ⟨b, 0, none⟩), .slice A8504 m8506 c8505] ++ (gridC 289 t8502.2)), .blk b 27 (Col.cells x), .vec A11005 17 2 1 (0 + 1) (ints l11011)] ++ [.vec A11006 1 2 1 1 (ints ([j])), .vec A6503 c6504 2 1 m6505 (ints t6502), .blk b1 2 [.int .i64 i]]) [3, 4, 1, 0, 2, 5] rfl (by decide)).backL hpost
      clear hpost
      replace hm := hm.unpush (l := ([] : List Int)) (m := 0) 2 rfl el11011
      refine wpl rfl rfl ht (ev_not ht rfl rfl) ?_
      intro a ht
      refine wpl rfl rfl ht (ev_assign ht rfl rfl) ?_
      intro a ht
      refine wpList_nil ?_
      refine then_normal ?_
      refine wp_ret ?_
      have hres := ht.res (P := Try.prog) (w := w) (rs := [.tmp 6]) (vs := [.bool !t11012]) (.tmp rfl .nil)
      obtain rfl := Option.some.inj H
      exact leave ht rfl hres ⟨rfl, ((hm.pick [1] rfl (by decide)).pickφ [] rfl).post fun _ h => h⟩
    · replace H := ite_no h11004 H
      refine wpc_yes ht rfl (not_f (Bool.eq_false_iff.mpr h11004)) ?_
      refine wp_seq ?_
      refine wpr ?_
      refine wpl rfl rfl ht (ev_assign ht rfl rfl) ?_
      intro a ht
      refine wpList_nil ?_
      refine then_normal ?_
      refine wp_ret ?_
      refine then_ret ?_
      have hres := ht.res (P := Try.prog) (w := w) (rs := [.tmp 6]) (vs := [.bool false]) (.tmp rfl .nil)
      obtain rfl := Option.some.inj H
      exact leave ht rfl hres ⟨rfl, ((hm.pick [2] rfl (by decide)).pickφ [] rfl).post fun _ h => h⟩
  · refine wph_step rfl ?_
    obtain ⟨t6502, et6502, H⟩ := bind_get H
    have hcall := impl_Colouring_that__Colouring_isMoved_1.calls k _ _ b b1 x i _ ((fun (hq : Ms _ _ _ ([.blk b 27 (Col.cells x), .blk b1 2 [.int .i64 i]] ++ []) _ _) => hq.lend (φp := []) (allRO_nil)) (hm.pick (own' := [.blk b 27 (Col.cells x), .blk b1 2 [.int .i64 i]] ++ []) [1, 0] rfl (by decide))) et6502
    refine wpl_call _ rfl rfl ht rfl rfl rfl rfl can_60 hcall ?_
    clear hcall
    rintro _ w ⟨A6503, c6504, m6505, rfl, hpost⟩ a ht
    replace hm := (hm.pick (own' := [.blk b 27 (Col.cells x), .blk b1 2 [.int .i64 i]] ++ []) [1, 0] rfl (by decide)).backL hpost
    clear hpost
    have hS : Ms X (fps [.blk b 27 (Col.cells x)]) w0 [.blk b1 2 [.int .i64 i], .blk b 27 (Col.cells x)] [] w := (hm.pick [2, 1] rfl (by decide)).pickφ [] rfl
    refine wpList_nil (qn ⟨hS, ?_⟩)
    refine wph_one (i := 3) (by kernel_rfl) (wph_step rfl ?_)
    refine wpl_build_ints (l := [i]) rfl rfl ht hm rfl und_43 zo_2 sz1_2 (by decide) rfl rfl rfl ?_
    intro A3502 a ht w hm
    have hS : Ms X (fps [.blk b 27 (Col.cells x)]) w0 [.blk b1 2 [.int .i64 i], .blk b 27 (Col.cells x)] [] w := (hm.pick [3, 2] rfl (by decide)).pickφ [] rfl
    refine wpList_nil (qn ⟨hS, ?_⟩)
    refine wph_one (i := 7) (by kernel_rfl) (wph_step rfl ?_)
    obtain ⟨l7505, el7505, H⟩ := bind_get H
    refine wpl_concat (r := l7505) 0 rfl rfl ht hm rfl ap_43 rfl rfl rfl (hm.vec_row 1 rfl) el7505 ?_
    intro A7502 c7503 m7504 a ht w hm
    have hS : Ms X (fps [.blk b 27 (Col.cells x)]) w0 [.blk b1 2 [.int .i64 i], .blk b 27 (Col.cells x)] [] w := (hm.pick [3, 2] rfl (by decide)).pickφ [] rfl
    refine wpList_nil (qn ⟨hS, ?_⟩)
    refine wph_one (i := 8) (by kernel_rfl) (wph_step rfl ?_)
    replace hm : Ms _ _ _ _ (IntsAt A7502 c7503 m7504 l7505 :: _) w := hm.shutVec 0 rfl
    obtain ⟨t8502, et8502, H⟩ := bind_get H
    have hcall := impl_newTracer.calls k _ _ b A7502 c7503 m7504 x l7505 _ ((hm.pick (own' := [.blk b 27 (Col.cells x)] ++ [.vec A6503 c6504 2 1 m6505 (ints t6502), .blk b1 2 [.int .i64 i]]) [1, 0, 2] rfl (by decide)).give (passed := [.blk b 27 (Col.cells x)]) (rest := [.vec A6503 c6504 2 1 m6505 (ints t6502), .blk b1 2 [.int .i64 i]]) (φp := [IntsAt A7502 c7503 m7504 l7505]) [0] rfl) et8502
    refine wpl_call _ rfl rfl ht rfl rfl rfl rfl can_47 hcall ?_
    clear hcall
    rintro _ w ⟨b8503, A8504, c8505, m8506, rfl, hpost⟩ a ht
    replace hm := (hm.pick (own' := [.blk b 27 (Col.cells x)] ++ [.vec A6503 c6504 2 1 m6505 (ints t6502), .blk b1 2 [.int .i64 i]]) [1, 0, 2] rfl (by decide)).back hpost
    clear hpost
    have hS : Ms X (fps [.blk b 27 (Col.cells x)]) w0 [.blk b1 2 [.int .i64 i], .blk b 27 (Col.cells x)] [] w := (hm.pick [3, 1] rfl (by decide)).pickφ [] rfl
    refine wpList_nil (qn ⟨hS, ?_⟩)
    refine wph_take (i := 9) rfl (by kernel_rfl) (by kernel_rfl) (by kernel_rfl) (fun _ _ _ h => h) rfl ht hS (wanted_plain rfl) (fun w hm => ev_assign ht rfl rfl) ?_
    intro a ht
    refine wph_done (by kernel_rfl) ?_
    replace hm := hm.pick (own' := [.vec A6503 c6504 2 1 m6505 (ints t6502), .blk b8503 86 ([.pointer (some ⟨b, 0, none⟩), .pointer (some ⟨b, 0, none⟩), .slice A8504 m8506 c8505] ++ (gridC 289 t8502.2)), .blk b 27 (Col.cells x), .blk b1 2 [.int .i64 i]]) [2, 0, 1, 3] rfl (by decide)
    refine then_normal ?_
    refine wp_seq ?_
    refine wp_seq ?_
    refine wph_begin (fun w => Ms X (fps [.blk b 27 (Col.cells x)]) w0 [.vec A6503 c6504 2 1 m6505 (ints t6502), .blk b8503 86 ([.pointer (some ⟨b, 0, none⟩), .pointer (some ⟨b, 0, none⟩), .slice A8504 m8506 c8505] ++ (gridC 289 t8502.2)), .blk b 27 (Col.cells x), .blk b1 2 [.int .i64 i]] [IntsAt A8504 c8505 m8506 t8502.1, IntsAt A7502 c7503 m7504 l7505] w) mixed ?_
    replace hm := hm.drew
    have hS : Ms X (fps [.blk b 27 (Col.cells x)]) w0 [.vec A6503 c6504 2 1 m6505 (ints t6502), .blk b8503 86 ([.pointer (some ⟨b, 0, none⟩), .pointer (some ⟨b, 0, none⟩), .slice A8504 m8506 c8505] ++ (gridC 289 t8502.2)), .blk b 27 (Col.cells x), .blk b1 2 [.int .i64 i]] [IntsAt A8504 c8505 m8506 t8502.1, IntsAt A7502 c7503 m7504 l7505] w.drew := (hm.pick [0, 1, 2, 3] rfl (by decide)).pickφ [0, 1] rfl
    generalize w.drew = w at hm hS ⊢
    refine wph_take (i := 0) rfl (by kernel_rfl) (by kernel_rfl) (by kernel_rfl) (fun _ _ _ h => h) rfl ht hS (wanted_plain rfl) (fun w hm => ev_move ht rfl rfl) ?_
    intro a ht
    refine wph_take (i := 1) rfl (by kernel_rfl) (by kernel_rfl) (by kernel_rfl) (fun _ _ _ h => h) rfl ht hS (wanted_plain rfl) (fun w hm => ev_load ht rfl rfl sc_2 (hm.blk_cell 3 rfl rfl)) ?_
    intro a ht
    refine wph_take (i := 2) rfl (by kernel_rfl) (by kernel_rfl) (by kernel_rfl) (fun _ _ _ h => h) rfl ht hS (wanted_plain rfl) (fun w hm => ev_move ht rfl rfl) ?_
    intro a ht
    refine wph_take (i := 3) rfl (by kernel_rfl) (by kernel_rfl) (by kernel_rfl) (fun _ _ _ h => h) rfl ht hS (wanted_plain rfl) (fun w hm => ev_nilCheck ht rfl rfl) ?_
    intro a ht
    refine wph_take (i := 4) rfl (by kernel_rfl) (by kernel_rfl) (by kernel_rfl) (fun _ _ _ h => h) rfl ht hS (wanted_plain rfl) (fun w hm => ev_fieldAddr ht rfl rfl fo_86_3) ?_
    intro a ht
    obtain ⟨u11002, eu11002, H⟩ := bind_get H
    refine wph_take (i := 5) rfl (by kernel_rfl) (by kernel_rfl) (by kernel_rfl) (fun _ _ _ h => h) rfl ht hS (wanted_plain rfl) (fun w hm => ev_indexAddr_arr ht rfl rfl rfl ar_84 (guardO_get eu11002).1 (by have := (guardO_get eu11002); omega)) ?_
    intro a ht
    obtain ⟨u11003, eu11003, H⟩ := bind_get H
    refine wph_take (i := 6) rfl (by kernel_rfl) (by kernel_rfl) (by kernel_rfl) (fun _ _ _ h => h) rfl ht hS (wanted_plain rfl) (fun w hm => ev_indexAddr_arr ht rfl rfl rfl ar_83 (guardO_get eu11003).1 (by have := (guardO_get eu11003); omega)) ?_
    intro a ht
    refine wph_take (i := 7) rfl (by kernel_rfl) (by kernel_rfl) (by kernel_rfl) (fun _ _ _ h => h) rfl ht hS (wanted_plain rfl) (fun w hm => ev_load ht rfl rfl sc_4 (hm.blk_cell 1 rfl (grid_get (guardO_get eu11002) (guardO_get eu11003)))) ?_
    intro a ht
    refine wph_take (i := 8) rfl (by kernel_rfl) (by kernel_rfl) (by kernel_rfl) (fun _ _ _ h => h) rfl ht hS (wanted_plain rfl) (fun w hm => ev_not ht rfl rfl) ?_
    intro a ht
    refine wph_done (by kernel_rfl) ?_
    refine then_normal ?_
    by_cases h11004 : (t8502.2 (i.toNat * 17 + j.toNat)) = true
    · replace H := ite_yes h11004 H
      refine wpc_no ht rfl (not_t h11004) ?_
      refine wp_skip ?_
      refine then_normal ?_
      refine wp_seq ?_
      refine wpr ?_
      refine wpl_make_cap (c := 17) rfl rfl ht hm rfl und_43 zo_2 sz1_2 by_2 rfl rfl (by decide) ?_
      intro A11005 a ht w hm
      refine wpl rfl rfl ht (ev_assign ht rfl rfl) ?_
      intro a ht
      refine wpList_nil ?_
      refine then_normal ?_
      refine wp_seq ?_
      refine wpr ?_
      refine wpl rfl rfl ht (ev_move ht rfl rfl) ?_
      intro a ht
      refine wpl rfl rfl ht (ev_move ht rfl rfl) ?_
      intro a ht
      refine wpl rfl rfl ht (ev_move ht rfl rfl) ?_
      intro a ht
      refine wpl_build_ints (l := [j]) rfl rfl ht hm rfl und_43 zo_2 sz1_2 (by decide) rfl rfl rfl ?_
      intro A11006 a ht w hm
      obtain ⟨u11010, eu11010, H⟩ := bind_get H
      obtain ⟨l11011, el11011, H⟩ := bind_get H
      refine wpl_push_in (r := l11011) 1 0 rfl rfl ht hm rfl ap_43 rfl rfl rfl rfl (guardO_get eu11010) el11011 ?_
      intro a ht w hm
      obtain ⟨t11012, et11012, H⟩ := bind_get H
      have hcall := impl_tracer_all__Colouring_isMoved_2.calls k _ _ b8503 b A8504 c8505 m8506 A11005 (0 + 1) x t8502.1 t8502.2 l11011 _ ((fun (hq : Ms _ _ _ ([.blk b8503 86 ([.pointer (some ⟨b, 0, none⟩), .pointer (some ⟨b, 0, none⟩), .slice A8504 m8506 c8505] ++ (gridC 289 t8502.2)), .blk b 27 (Col.cells x), .vec A11005 17 2 1 (0 + 1) (ints l11011)] ++ [.vec A11006 1 2 1 1 (ints ([j])), .vec A6503 c6504 2 1 m6505 (ints t6502), .blk b1 2 [.int .i64 i]]) _ _) => hq.lend (φp := [IntsAt A8504 c8505 m8506 t8502.1]) (allRO_cons (hq.lendFact 0 rfl) (allRO_nil))) (hm.pick (own' := [.blk b8503 86 ([.pointer (some ⟨b, 0, none⟩), .pointer (some ⟨b, 0, none⟩), .slice A8504 m8506 c8505] ++ (gridC 289 t8502.2)), .blk b 27 (Col.cells x), .vec A11005 17 2 1 (0 + 1) (ints l11011)] ++ [.vec A11006 1 2 1 1 (ints ([j])), .vec A6503 c6504 2 1 m6505 (ints t6502), .blk b1 2 [.int .i64 i]]) [3, 4, 1, 0, 2, 5] rfl (by decide))) et11012
      refine wpl_call _ rfl rfl ht rfl rfl rfl rfl can_49 hcall ?_
      clear hcall
      rintro _ w ⟨rfl, hpost⟩ a ht
      replace hm := (hm.pick (own' := [.blk b8503 86 ([.pointer (some ⟨b, 0, none⟩), .pointer (some ⟨b, 0, none⟩), .slice A8504 m8506 c8505] ++ (gridC 289 t8502.2)), .blk b 27 (Col.cells x), .vec A11005 17 2 1 (0 + 1) (ints l11011)] ++ [.vec A11006 1 2 1 1 (ints ([j])), .vec A6503 c6504 2 1 m6505 (ints t6502), .blk b1 2 [.int .i64 i]]) [3, 4, 1, 0, 2, 5] rfl (by decide)).backL hpost
      clear hpost
      replace hm := hm.unpush (l := ([] : List Int)) (m := 0) 2 rfl el11011
      refine wpl rfl rfl ht (ev_not ht rfl rfl) ?_
      intro a ht
      refine wpl rfl rfl ht (ev_assign ht rfl rfl) ?_
      intro a ht
      refine wpList_nil ?_
      refine then_normal ?_
      refine wp_ret ?_
      have hres := ht.res (P := Try.prog) (w := w) (rs := [.tmp 6]) (vs := [.bool !t11012]) (.tmp rfl .nil)
      obtain rfl := Option.some.inj H
      exact leave ht rfl hres ⟨rfl, ((hm.pick [1] rfl (by decide)).pickφ [] rfl).post fun _ h => h⟩
    · replace H := ite_no h11004 H
      refine wpc_yes ht rfl (not_f (Bool.eq_false_iff.mpr h11004)) ?_
      refine wp_seq ?_
      refine wpr ?_
      refine wpl rfl rfl ht (ev_assign ht rfl rfl) ?_
      intro a ht
      refine wpList_nil ?_
      refine then_normal ?_
      refine wp_ret ?_
      refine then_ret ?_
      have hres := ht.res (P := Try.prog) (w := w) (rs := [.tmp 6]) (vs := [.bool false]) (.tmp rfl .nil)
      obtain rfl := Option.some.inj H
      exact leave ht rfl hres ⟨rfl, ((hm.pick [2] rfl (by decide)).pickφ [] rfl).post fun _ h => h⟩

/-! ### impl_PointOrbits_1: function 38 (loop.example/g01362/impl.PointOrbits$1) -/
def impl_PointOrbits_1.f (k : Nat) (list : List Int) (x : Col) (x2 : Int) : Option (Bool) := (getI list 0).bind fun t1 => (impl_Colouring_isMoved.f k x t1 x2).bind fun t2 => some t2
set_option maxRecDepth 100000 in
set_option maxHeartbeats 20000000 in
theorem impl_PointOrbits_1.calls (k : Nat) (X : List Nat) (w0 : World) (A : Option Addr) (c : Nat) (m : Nat) (b : Nat) (b2 : Nat) (list : List Int) (x : Col) (x2 : Int) (r : Bool)
    (hp : Pre X w0 [.blk b 27 (Col.cells x), .blk b2 2 [.int .i64 x2]] [IntsAt A c m list]) (H : impl_PointOrbits_1.f k list x x2 = some r) :
    Calls Try.prog 38 [.slice A m c, .pointer (some ⟨b, 0, none⟩), .pointer (some ⟨b2, 0, none⟩)].toArray w0 (Ret fun v w => v = .bool r ∧ Post X (fps [.blk b 27 (Col.cells x), .blk b2 2 [.int .i64 x2]]) w0 [.blk b 27 (Col.cells x), .blk b2 2 [.int .i64 x2]] [] w) := by
  unfold impl_PointOrbits_1.f at H
  refine enterM (n := 10) hp Try.func38 rfl rfl (Nat.le_of_ble_eq_true rfl) fun a w ht hm => ?_
  refine wp_seq ?_
  refine wpr ?_
  refine wpl rfl rfl ht (ev_assign ht rfl rfl) ?_
  intro a ht
  refine wpList_nil ?_
  refine then_normal ?_
  refine wp_seq ?_
  refine wph_begin (fun w => Ms X (fps [.blk b 27 (Col.cells x), .blk b2 2 [.int .i64 x2]]) w0 [.blk b 27 (Col.cells x), .blk b2 2 [.int .i64 x2]] [IntsAt A c m list] w) mixed ?_
  replace hm := hm.drew
  have hS : Ms X (fps [.blk b 27 (Col.cells x), .blk b2 2 [.int .i64 x2]]) w0 [.blk b 27 (Col.cells x), .blk b2 2 [.int .i64 x2]] [IntsAt A c m list] w.drew := (hm.pick [0, 1] rfl (by decide)).pickφ [0] rfl
  generalize w.drew = w at hm hS ⊢
  refine wph_take (i := 0) rfl (by kernel_rfl) (by kernel_rfl) (by kernel_rfl) (fun _ _ _ h => h) rfl ht hS (wanted_plain rfl) (fun w hm => ev_move ht rfl rfl) ?_
  intro a ht
  obtain ⟨t1, et1, H⟩ := bind_get H
  refine wph_take (i := 1) rfl (by kernel_rfl) (by kernel_rfl) (by kernel_rfl) (fun _ _ _ h => h) rfl ht hS (wanted_plain rfl) (fun w hm => ev_index_ints ht rfl rfl rfl so_43 (hm.fact (φ := IntsAt A c m list) 0 rfl) et1) ?_
  intro a ht
  refine wph_take (i := 2) rfl (by kernel_rfl) (by kernel_rfl) (by kernel_rfl) (fun _ _ _ h => h) rfl ht hS (wanted_plain rfl) (fun w hm => ev_load ht rfl rfl sc_2 (RowAt.cell (hm.fact (φ := IntsAt A c m list) 0 rfl) (ints_get et1) rfl)) ?_
  intro a ht
  refine wph_take (i := 3) rfl (by kernel_rfl) (by kernel_rfl) (by kernel_rfl) (fun _ _ _ h => h) rfl ht hS (wanted_plain rfl) (fun w hm => ev_load ht rfl rfl sc_2 (hm.blk_cell 1 rfl rfl)) ?_
  intro a ht
  refine wph_one (i := 4) (by kernel_rfl) (wph_step rfl ?_)
  obtain ⟨t2, et2, H⟩ := bind_get H
  have hcall := impl_Colouring_isMoved.calls k _ _ b x t1 x2 _ ((fun (hq : Ms _ _ _ ([.blk b 27 (Col.cells x)] ++ [.blk b2 2 [.int .i64 x2]]) _ _) => hq.lend (φp := []) (allRO_nil)) (hm.pick (own' := [.blk b 27 (Col.cells x)] ++ [.blk b2 2 [.int .i64 x2]]) [0, 1] rfl (by decide))) et2
  refine wpl_call _ rfl rfl ht rfl rfl rfl rfl can_39 hcall ?_
  clear hcall
  rintro _ w ⟨rfl, hpost⟩ a ht
  replace hm := (hm.pick (own' := [.blk b 27 (Col.cells x)] ++ [.blk b2 2 [.int .i64 x2]]) [0, 1] rfl (by decide)).backL hpost
  clear hpost
  have hS : Ms X (fps [.blk b 27 (Col.cells x), .blk b2 2 [.int .i64 x2]]) w0 [.blk b 27 (Col.cells x), .blk b2 2 [.int .i64 x2]] [IntsAt A c m list] w := (hm.pick [0, 1] rfl (by decide)).pickφ [0] rfl
  refine wpList_nil (qn ⟨hS, ?_⟩)
  refine wph_take (i := 5) rfl (by kernel_rfl) (by kernel_rfl) (by kernel_rfl) (fun _ _ _ h => h) rfl ht hS (wanted_plain rfl) (fun w hm => ev_assign ht rfl rfl) ?_
  intro a ht
  refine wph_done (by kernel_rfl) ?_
  refine then_normal ?_
  refine wp_ret ?_
  have hres := ht.res (P := Try.prog) (w := w) (rs := [.tmp 4]) (vs := [.bool t2]) (.tmp rfl .nil)
  obtain rfl := Option.some.inj H
  exact leave ht rfl hres ⟨rfl, ((hm.pick [0, 1] rfl (by decide)).pickφ [] rfl).post fun _ h => h⟩

/-! ### slices_IndexFunc_int64_int64__PointOrbits_1: function 37 (slices.IndexFunc[[][]int64,[]int64]) -/
def slices_IndexFunc_int64_int64__PointOrbits_1.l0 : Nat → List (List Int) → Col → Int → Int → Option (Int)
  | 0, _, _, _, _ => none
  | q1 + 1, s, f, f2, xs0_1 => if xs0_1 < (s.length : Int) then ((getR s xs0_1).bind fun l3 => (impl_PointOrbits_1.f q1 l3 f f2).bind fun t8 => if t8 = true then (some xs0_1) else (slices_IndexFunc_int64_int64__PointOrbits_1.l0 q1 s f f2 (w64 (xs0_1 + 1)))) else (some (-1))
def slices_IndexFunc_int64_int64__PointOrbits_1.f (k : Nat) (s : List (List Int)) (f : Col) (f2 : Int) : Option (Int) := slices_IndexFunc_int64_int64__PointOrbits_1.l0 k s f f2 0
set_option maxRecDepth 100000 in
set_option maxHeartbeats 20000000 in
theorem slices_IndexFunc_int64_int64__PointOrbits_1.calls (k : Nat) (X : List Nat) (w0 : World) (A : Option Addr) (c : Nat) (m : Nat) (vs : List Value) (b : Nat) (b2 : Nat) (s : List (List Int)) (f : Col) (f2 : Int) (r : Int)
    (hp : Pre X w0 [.blk b 27 (Col.cells f), .blk b2 2 [.int .i64 f2]] [RowsAt A c m vs s]) (H : slices_IndexFunc_int64_int64__PointOrbits_1.f k s f f2 = some r) :
    Calls Try.prog 37 [.slice A m c, .func (.func 38) [].toArray [.pointer (some ⟨b, 0, none⟩), .pointer (some ⟨b2, 0, none⟩)].toArray].toArray w0 (Ret fun v w => v = .int .i64 r ∧ Post X (fps [.blk b 27 (Col.cells f), .blk b2 2 [.int .i64 f2]]) w0 [.blk b 27 (Col.cells f), .blk b2 2 [.int .i64 f2]] [] w) := by
  unfold slices_IndexFunc_int64_int64__PointOrbits_1.f at H
  refine enterM (n := 19) hp Try.func37 rfl rfl (Nat.le_of_ble_eq_true rfl) fun a w ht hm => ?_
  refine wp_seq ?_
  refine wpr ?_
  refine wpl rfl rfl ht (ev_assign ht rfl rfl) ?_
  intro a ht
  refine wpList_nil ?_
  refine then_normal ?_
  refine wp_seq ?_
  refine wp_seq ?_
  refine wpr ?_
  refine wpl rfl rfl ht (ev_move ht rfl rfl) ?_
  intro a ht
  refine wpl rfl rfl ht (ev_len_rows ht rfl rfl und_35 (hm.fact (φ := RowsAt A c m vs s) 0 rfl)) ?_
  intro a ht
  refine wpl rfl rfl ht (ev_move ht rfl rfl) ?_
  intro a ht
  refine wpList_nil ?_
  refine then_normal ?_
  refine wp_block ?_
  refine wpLoop (fun q a w => ∃ (xs0_1 : Int), slices_IndexFunc_int64_int64__PointOrbits_1.l0 q s f f2 xs0_1 = some r ∧ q ≤ k ∧ Tm 19 [(0, .slice A m c), (1, .func (.func 38) [].toArray [.pointer (some ⟨b, 0, none⟩), .pointer (some ⟨b2, 0, none⟩)].toArray), (4, .int .i64 0), (7, .int .i64 (s.length : Int)), (8, .int .i64 xs0_1)] a ∧ Ms X (fps [.blk b 27 (Col.cells f), .blk b2 2 [.int .i64 f2]]) w0 [.blk b 27 (Col.cells f), .blk b2 2 [.int .i64 f2]] [RowsAt A c m vs s] w) (k0 := k) ⟨0, H, Nat.le_refl _, ht.sub ⟨rfl, rfl, rfl, rfl, rfl, trivial⟩, (hm.pick [0, 1] rfl (by decide)).pickφ [0] rfl⟩ ?_
  clear H ht hm
  intro q1 a w hJ
  obtain ⟨xs0_1, H, hqq1, ht, hm⟩ := hJ
  cases q1 with
  | zero => cases H
  | succ q1 =>
  rw [slices_IndexFunc_int64_int64__PointOrbits_1.l0] at H
  refine wp_seq ?_
  refine wpr ?_
  refine wpl rfl rfl ht (ev_cmp ht rfl rfl rfl rfl) ?_
  intro a ht
  refine wpList_nil ?_
  refine then_normal ?_
  refine wp_seq ?_
  by_cases h2 : xs0_1 < (s.length : Int)
  · replace H := ite_yes h2 H
    refine wpc_yes ht rfl (decide_eq_true h2) ?_
    refine wp_skip ?_
    refine then_normal ?_
    refine wp_seq ?_
    refine wp_block ?_
    refine wp_seq ?_
    refine wpr ?_
    refine wpl rfl rfl ht (ev_move ht rfl rfl) ?_
    intro a ht
    refine wpl rfl rfl ht (ev_assign ht rfl rfl) ?_
    intro a ht
    refine wpList_nil ?_
    refine then_normal ?_
    refine wp_seq ?_
    refine wpr ?_
    refine wpl rfl rfl ht (ev_move ht rfl rfl) ?_
    intro a ht
    refine wpl rfl rfl ht (ev_move ht rfl rfl) ?_
    intro a ht
    refine wpl rfl rfl ht (ev_move ht rfl rfl) ?_
    intro a ht
    obtain ⟨l3, el3, H⟩ := bind_get H
    refine wpl rfl rfl ht (ev_index_rows ht rfl rfl rfl so_35 (hm.fact (φ := RowsAt A c m vs s) 0 rfl) el3) ?_
    intro a ht
    obtain ⟨A4, c5, m6, hv7, hI⟩ := rowsAt_get (hm.fact (φ := RowsAt A c m vs s) 0 rfl) el3
    refine wpl rfl rfl ht (ev_load ht rfl rfl sc_43 (RowsAt.cell (hm.fact (φ := RowsAt A c m vs s) 0 rfl) hv7)) ?_
    intro a ht
    replace hm : Ms _ _ _ _ (IntsAt A4 c5 m6 l3 :: _) w := hm.addφ ((hm.ro 0 rfl).mono fun w h => rowsAt_at h hv7 el3)
    clear hI
    obtain ⟨t8, et8, H⟩ := bind_get H
    have hcall := impl_PointOrbits_1.calls q1 _ _ A4 c5 m6 b b2 l3 f f2 _ ((fun (hq : Ms _ _ _ ([.blk b 27 (Col.cells f), .blk b2 2 [.int .i64 f2]] ++ []) _ _) => hq.lend (φp := [IntsAt A4 c5 m6 l3]) (allRO_cons (hq.lendFact 0 rfl) (allRO_nil))) (hm.pick (own' := [.blk b 27 (Col.cells f), .blk b2 2 [.int .i64 f2]] ++ []) [0, 1] rfl (by decide))) et8
    refine wpl_call _ rfl rfl ht rfl rfl rfl rfl can_38 hcall ?_
    clear hcall
    rintro _ w ⟨rfl, hpost⟩ a ht
    replace hm := (hm.pick (own' := [.blk b 27 (Col.cells f), .blk b2 2 [.int .i64 f2]] ++ []) [0, 1] rfl (by decide)).backL hpost
    clear hpost
    refine wpList_nil ?_
    refine then_normal ?_
    by_cases h9 : t8 = true
    · replace H := ite_yes h9 H
      refine wpc_yes ht rfl h9 ?_
      refine wp_seq ?_
      refine wpr ?_
      refine wpl rfl rfl ht (ev_move ht rfl rfl) ?_
      intro a ht
      refine wpl rfl rfl ht (ev_assign ht rfl rfl) ?_
      intro a ht
      refine wpList_nil ?_
      refine then_normal ?_
      refine wp_ret ?_
      refine blk_ret ?_
      refine then_ret ?_
      refine then_ret ?_
      refine blk_ret ?_
      refine then_ret ?_
      have hres := ht.res (P := Try.prog) (w := w) (rs := [.tmp 4]) (vs := [.int .i64 xs0_1]) (.tmp rfl .nil)
      obtain rfl := Option.some.inj H
      exact leave ht rfl hres ⟨rfl, ((hm.pick [0, 1] rfl (by decide)).pickφ [] rfl).post fun _ h => h⟩
    · replace H := ite_no h9 H
      refine wpc_no ht rfl (Bool.eq_false_iff.mpr h9) ?_
      refine wp_skip ?_
      refine blk_normal ?_
      refine then_normal ?_
      refine wpr ?_
      refine wpl rfl rfl ht (ev_arith ht rfl rfl rfl rfl) ?_
      intro a ht
      refine wpl rfl rfl ht (ev_move ht rfl rfl) ?_
      intro a ht
      refine wpList_nil ?_
      exact then_normal ⟨q1, by omega, (w64 (xs0_1 + 1)), H, by omega, ht.sub ⟨rfl, rfl, rfl, rfl, rfl, trivial⟩, (hm.pick [0, 1] rfl (by decide)).pickφ [1] rfl⟩
  · replace H := ite_no h2 H
    refine wpc_no ht rfl (decide_eq_false h2) ?_
    refine wp_exit ?_
    refine then_exit ?_
    refine then_exit ?_
    refine blk_hit ?_
    refine then_normal ?_
    refine wp_seq ?_
    refine wpr ?_
    refine wpl rfl rfl ht (ev_assign ht rfl rfl) ?_
    intro a ht
    refine wpList_nil ?_
    refine then_normal ?_
    refine wp_ret ?_
    have hres := ht.res (P := Try.prog) (w := w) (rs := [.tmp 4]) (vs := [.int .i64 (-1)]) (.tmp rfl .nil)
    obtain rfl := Option.some.inj H
    exact leave ht rfl hres ⟨rfl, ((hm.pick [0, 1] rfl (by decide)).pickφ [] rfl).post fun _ h => h⟩

end Go.Proofs.Ytbgniopmmankdaa.G
