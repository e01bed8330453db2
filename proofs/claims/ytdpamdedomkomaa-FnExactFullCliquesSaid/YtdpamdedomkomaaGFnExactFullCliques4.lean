/- What each Go function computes, as a Lean function, and the proof that it does: written by a program of this session (wip/gen), part 4. -/
import Derived.Test.YtdpamdedomkomaaGFnExactFullCliques3
namespace Go.Proofs.Ytdpamdedomkomaa.G
open Go Go.RowKit Go.Proofs.Ytdpamdedomkomaa.K
set_option linter.unusedVariables false
set_option linter.unusedSimpArgs false

/-! ### spec_FullCliques: function 45 (loop.example/g01362/spec.FullCliques) -/
mutual
def spec_FullCliques.l0 : Nat → List Int → List (List Int) → Int → Option (List (List Int) × Int)
  | 0, _, _, _ => none
  | q14008 + 1, t9506, ls0_4, xs0_6 => if xs0_6 < (t9506.length : Int) then ((getI t9506 xs0_6).bind fun t14010 => (spec_l01Points.f q14008 t14010).bind fun t14011 => (concatR ls0_4 ([t14011])).bind fun l14019 => spec_FullCliques.l1 q14008 t9506 xs0_6 t14011 l14019 (ls0_4.length : Int)) else (some (ls0_4, 0))
def spec_FullCliques.l1 : Nat → List Int → Int → List Int → List (List Int) → Int → Option (List (List Int) × Int)
  | 0, _, _, _, _, _ => none
  | q14020 + 1, t9506, xs0_6, t14011, ls1_1, xs1_3 => if xs1_3 > 0 then ((getR ls1_1 (w64 (xs1_3 - 1))).bind fun l14022 => (spec_l02Before.f q14020 t14011 l14022).bind fun t14027 => if t14027 = true then ((getR ls1_1 (w64 (xs1_3 - 1))).bind fun l14029 => (getR ls1_1 xs1_3).bind fun l14034 => spec_FullCliques.l1 q14020 t9506 xs0_6 t14011 (ls1_1.set xs1_3.toNat l14029) (w64 (xs1_3 - 1))) else ((getR ls1_1 xs1_3).bind fun l14036 => spec_FullCliques.l0 q14020 t9506 (ls1_1.set xs1_3.toNat t14011) (w64 (xs0_6 + 1)))) else ((getR ls1_1 xs1_3).bind fun l14038 => spec_FullCliques.l0 q14020 t9506 (ls1_1.set xs1_3.toNat t14011) (w64 (xs0_6 + 1)))
end
def spec_FullCliques.f (k : Nat) (x : Col) (c : Int) : Option (List (List Int) × Int) := (spec_l01Given.f k x c ([])).bind fun t3 => if t3 ≠ 0 then (some (([] : List (List Int)), t3)) else ((spec_l02Rows.f k x c).bind fun t2506 => (spec_l02Full.f k t2506 0 (w64 ((shlI .i64 1 (wu64 x.p)) - 1)) 0 ([] : List Int) 201).bind fun t9506 => if (t9506.length : Int) > 200 then (some (([] : List (List Int)), 3)) else (spec_FullCliques.l0 k t9506 ([] : List (List Int)) 0))
set_option maxRecDepth 100000 in
set_option maxHeartbeats 1000000 in
theorem spec_FullCliques.calls (k : Nat) (X : List Nat) (w0 : World)  (x : Col) (c : Int) (r : List (List Int) × Int)
    (hp : Pre X w0 [] []) (H : spec_FullCliques.f k x c = some r) :
    Calls Try.prog 45 [.agg (Col.cells x).toArray, .int .i64 c].toArray w0 (Ret fun v w => ∃ (A_0 : Option Addr) (c_0 : Nat) (n_0 : Nat) (vs_0 : List Value), v = .tuple [.slice A_0 n_0 c_0, .int .i64 r.2].toArray ∧ Post X (fps []) w0 [.vec A_0 c_0 25 1 n_0 vs_0] [AllInts vs_0 r.1] w) := by
  unfold spec_FullCliques.f at H
  refine enterM (n := 75) hp Try.func45 rfl rfl (Nat.le_of_ble_eq_true rfl) fun a w ht hm => ?_
  refine wp_seq ?_
  refine wpr ?_
  refine wpl_box rfl rfl ht hm rfl rfl rfl ?_
  intro b1 a ht w hm
  refine wpl rfl rfl ht (ev_assign ht rfl rfl) ?_
  intro a ht
  refine wpl rfl rfl ht (ev_assign ht rfl rfl) ?_
  intro a ht
  refine wpList_nil ?_
  refine then_normal ?_
  refine wp_seq ?_
  refine wp_seq ?_
  refine wpr ?_
  refine wpl rfl rfl ht (ev_load_agg ht rfl rfl (ag_28.trans (by first | rw [Col.length_cells] | rfl)) (hm.blk_all 0 rfl)) ?_
  intro a ht
  refine wpl rfl rfl ht (ev_move ht rfl rfl) ?_
  intro a ht
  replace hm : Ms _ _ _ _ (IntsAt none 0 0 ([] : List Int) :: _) w := hm.nilRow none 1
  obtain ⟨t3, et3, H⟩ := bind_get H
  have hcall := spec_l01Given.calls k _ _ none 0 0 x c ([]) _ ((fun (hq : Ms _ _ _ ([] ++ [.blk b1 28 (Col.cells x)]) _ _) => hq.lend (φp := [IntsAt none 0 0 ([] : List Int)]) (allRO_cons (hq.lendFact 0 rfl) (allRO_nil))) (hm.pick (own' := [] ++ [.blk b1 28 (Col.cells x)]) [0] rfl (by decide))) et3
  refine wpl_call _ rfl rfl ht rfl rfl rfl rfl can_47 hcall ?_
  clear hcall
  rintro _ w ⟨rfl, hpost⟩ a ht
  replace hm := (hm.pick (own' := [] ++ [.blk b1 28 (Col.cells x)]) [0] rfl (by decide)).backL hpost
  clear hpost
  refine wpl rfl rfl ht (ev_assign ht rfl rfl) ?_
  intro a ht
  refine wpList_nil ?_
  refine then_normal ?_
  refine wp_seq ?_
  refine wpr ?_
  refine wpl rfl rfl ht (ev_move ht rfl rfl) ?_
  intro a ht
  refine wpl rfl rfl ht (ev_cmp ht rfl rfl rfl rfl) ?_
  intro a ht
  refine wpList_nil ?_
  refine then_normal ?_
  by_cases h4 : t3 ≠ 0
  · replace H := ite_yes h4 H
    refine wpc_yes ht rfl (decide_eq_true h4) ?_
    refine wp_seq ?_
    refine wpr ?_
    refine wpl rfl rfl ht (ev_move ht rfl rfl) ?_
    intro a ht
    refine wpl rfl rfl ht (ev_assign ht rfl rfl) ?_
    intro a ht
    refine wpl rfl rfl ht (ev_assign ht rfl rfl) ?_
    intro a ht
    refine wpList_nil ?_
    refine then_normal ?_
    refine wp_ret ?_
    refine then_ret ?_
    have hres := ht.res (P := Try.prog) (w := w) (rs := [.tmp 4, .tmp 5]) (vs := [.slice none 0 0, .int .i64 t3]) (.tmp rfl (.tmp rfl .nil))
    replace hm : Ms _ _ _ _ (AllInts ([]) ([] : List (List Int)) :: _) w := hm.addφ allInts_nil
    replace hm : Ms _ _ _ (.vec none 0 25 1 0 ([]) :: _) _ w := hm.nilVec none 25 1
    obtain rfl := Option.some.inj H
    exact leave ht rfl hres ⟨none, 0, 0, [], rfl, ((hm.pick [0] rfl (by decide)).pickφ [0] rfl).post fun _ h => h⟩
  · replace H := ite_no h4 H
    refine wpc_no ht rfl (decide_eq_false h4) ?_
    refine wp_skip ?_
    refine then_normal ?_
    refine wp_seq ?_
    refine wph_begin (fun w => Ms X (fps []) w0 [.blk b1 28 (Col.cells x)] [IntsAt none 0 0 ([] : List Int)] w) mixed ?_
    replace hm := hm.drew
    have hS : Ms X (fps []) w0 [.blk b1 28 (Col.cells x)] [IntsAt none 0 0 ([] : List Int)] w.drew := (hm.pick [0] rfl (by decide)).pickφ [0] rfl
    generalize w.drew = w at hm hS ⊢
    refine wph_take (i := 0) rfl (by kernel_rfl) (by kernel_rfl) (by kernel_rfl) (fun _ _ _ h => h) rfl ht hS (wanted_plain rfl) (fun w hm => ev_load_agg ht rfl rfl (ag_28.trans (by first | rw [Col.length_cells] | rfl)) (hm.blk_all 0 rfl)) ?_
    intro a ht
    refine wph_take (i := 1) rfl (by kernel_rfl) (by kernel_rfl) (by kernel_rfl) (fun _ _ _ h => h) rfl ht hS (wanted_plain rfl) (fun w hm => ev_move ht rfl rfl) ?_
    intro a ht
    refine wph_take (i := 3) rfl (by kernel_rfl) (by kernel_rfl) (by kernel_rfl) (fun _ _ _ h => h) rfl ht hS (wanted_plain rfl) (fun w hm => ev_fieldAddr ht rfl rfl fo_28_0) ?_
    intro a ht
    refine wph_take (i := 4) rfl (by kernel_rfl) (by kernel_rfl) (by kernel_rfl) (fun _ _ _ h => h) rfl ht hS (wanted_plain rfl) (fun w hm => ev_load ht rfl rfl sc_2 (hm.blk_cell 0 rfl rfl)) ?_
    intro a ht
    refine wph_take (i := 5) rfl (by kernel_rfl) (by kernel_rfl) (by kernel_rfl) (fun _ _ _ h => h) rfl ht hS (wanted_plain rfl) (fun w hm => ev_convert ht rfl rfl und_2 und_68) ?_
    intro a ht
    refine wph_take (i := 6) rfl (by kernel_rfl) (by kernel_rfl) (by kernel_rfl) (fun _ _ _ h => h) rfl ht hS (wanted_plain rfl) (fun w hm => ev_shl ht rfl rfl rfl (wrapU_nonneg _ _ rfl)) ?_
    intro a ht
    refine wph_take (i := 7) rfl (by kernel_rfl) (by kernel_rfl) (by kernel_rfl) (fun _ _ _ h => h) rfl ht hS (wanted_plain rfl) (fun w hm => ev_arith ht rfl rfl rfl rfl) ?_
    intro a ht
    refine wph_three (i := 2) (j := 8) (l := 10) (by kernel_rfl) ?_ ?_ ?_ 
    · refine wph_step rfl ?_
      obtain ⟨t2506, et2506, H⟩ := bind_get H
      have hcall := spec_l02Rows.calls k _ _ x c _ ((fun (hq : Ms _ _ _ ([] ++ [.blk b1 28 (Col.cells x)]) _ _) => hq.lend (φp := []) (allRO_nil)) (hm.pick (own' := [] ++ [.blk b1 28 (Col.cells x)]) [0] rfl (by decide))) et2506
      refine wpl_call _ rfl rfl ht rfl rfl rfl rfl can_59 hcall ?_
      clear hcall
      rintro _ w ⟨A2507, c2508, m2509, rfl, hpost⟩ a ht
      replace hm := (hm.pick (own' := [] ++ [.blk b1 28 (Col.cells x)]) [0] rfl (by decide)).backL hpost
      clear hpost
      have hS : Ms X (fps []) w0 [.blk b1 28 (Col.cells x)] [IntsAt none 0 0 ([] : List Int)] w := (hm.pick [1] rfl (by decide)).pickφ [0] rfl
      refine wpList_nil (qn ⟨hS, ?_⟩)
      refine wph_two (i := 8) (j := 10) (by kernel_rfl) ?_ ?_ 
      · refine wph_step rfl ?_
        refine wpl_build_ints (l := ([] : List Int)) rfl rfl ht hm rfl und_25 zo_2 sz1_2 (by decide) rfl rfl rfl ?_
        intro A8506 a ht w hm
        have hS : Ms X (fps []) w0 [.blk b1 28 (Col.cells x)] [IntsAt none 0 0 ([] : List Int)] w := (hm.pick [2] rfl (by decide)).pickφ [0] rfl
        refine wpList_nil (qn ⟨hS, ?_⟩)
        refine wph_two (i := 9) (j := 10) (by kernel_rfl) ?_ ?_ 
        · refine wph_step rfl ?_
          obtain ⟨t9506, et9506, H⟩ := bind_get H
          have hcall := spec_l02Full.calls k _ _ A2507 c2508 m2509 A8506 0 0 t2506 0 (w64 ((shlI .i64 1 (wu64 x.p)) - 1)) 0 ([] : List Int) 201 _ ((fun (hq : Ms _ _ _ ([.vec A8506 0 2 1 0 (ints ([] : List Int))] ++ [.vec A2507 c2508 2 1 m2509 (ints t2506), .blk b1 28 (Col.cells x)]) _ _) => hq.lend (φp := [IntsAt A2507 c2508 m2509 t2506]) (allRO_cons (hq.lendVec 0 rfl) (allRO_nil))) (hm.pick (own' := [.vec A8506 0 2 1 0 (ints ([] : List Int))] ++ [.vec A2507 c2508 2 1 m2509 (ints t2506), .blk b1 28 (Col.cells x)]) [0, 1, 2] rfl (by decide))) et9506
          refine wpl_call _ rfl rfl ht rfl rfl rfl rfl can_92 hcall ?_
          clear hcall
          rintro _ w ⟨A9507, c9508, m9509, rfl, hpost⟩ a ht
          replace hm := (hm.pick (own' := [.vec A8506 0 2 1 0 (ints ([] : List Int))] ++ [.vec A2507 c2508 2 1 m2509 (ints t2506), .blk b1 28 (Col.cells x)]) [0, 1, 2] rfl (by decide)).backL hpost
          clear hpost
          have hS : Ms X (fps []) w0 [.blk b1 28 (Col.cells x)] [IntsAt none 0 0 ([] : List Int)] w := (hm.pick [2] rfl (by decide)).pickφ [0] rfl
          refine wpList_nil (qn ⟨hS, ?_⟩)
          refine wph_take (i := 11) rfl (by kernel_rfl) (by kernel_rfl) (by kernel_rfl) (fun _ _ _ h => h) rfl ht hS (wanted_plain rfl) (fun w hm => ev_assign ht rfl rfl) ?_
          intro a ht
          refine wph_one (i := 10) (by kernel_rfl) (wph_step rfl ?_)
          replace hm : Ms _ _ _ _ (AllInts ([]) ([] : List (List Int)) :: _) w := hm.addφ (allInts_nil)
          refine wpl_buildSlice (vs := []) rfl rfl ht hm rfl und_49 zo_25 sz1_25 (by decide) rfl rfl rfl ?_
          intro A10506 a ht w hm
          have hS : Ms X (fps []) w0 [.blk b1 28 (Col.cells x)] [IntsAt none 0 0 ([] : List Int)] w := (hm.pick [3] rfl (by decide)).pickφ [1] rfl
          refine wpList_nil (qn ⟨hS, ?_⟩)
          refine wph_take (i := 12) rfl (by kernel_rfl) (by kernel_rfl) (by kernel_rfl) (fun _ _ _ h => h) rfl ht hS (wanted_plain rfl) (fun w hm => ev_assign ht rfl rfl) ?_
          intro a ht
          refine wph_done (by kernel_rfl) ?_
          replace hm := hm.pick (own' := [.vec A2507 c2508 2 1 m2509 (ints t2506), .vec A9507 c9508 2 1 m9509 (ints t9506), .vec A10506 0 25 1 0 ([]), .blk b1 28 (Col.cells x)]) [2, 1, 0, 3] rfl (by decide)
          refine then_normal ?_
          refine wp_seq ?_
          refine wp_seq ?_
          refine wpr ?_
          refine wpl rfl rfl ht (ev_move ht rfl rfl) ?_
          intro a ht
          refine wpl rfl rfl ht (ev_len_of ht rfl rfl und_25 (hm.vec_row 1 rfl)) ?_
          intro a ht
          refine wpl rfl rfl ht (ev_cmp ht rfl rfl rfl rfl) ?_
          intro a ht
          refine wpList_nil ?_
          refine then_normal ?_
          by_cases h14006 : (t9506.length : Int) > 200
          · replace H := ite_yes h14006 H
            refine wpc_yes ht rfl (decide_eq_true h14006) ?_
            refine wp_seq ?_
            refine wpr ?_
            refine wpl rfl rfl ht (ev_assign ht rfl rfl) ?_
            intro a ht
            refine wpl rfl rfl ht (ev_assign ht rfl rfl) ?_
            intro a ht
            refine wpList_nil ?_
            refine then_normal ?_
            refine wp_ret ?_
            refine then_ret ?_
            have hres := ht.res (P := Try.prog) (w := w) (rs := [.tmp 4, .tmp 5]) (vs := [.slice none 0 0, .int .i64 3]) (.tmp rfl (.tmp rfl .nil))
            replace hm : Ms _ _ _ _ (AllInts ([]) ([] : List (List Int)) :: _) w := hm.addφ allInts_nil
            replace hm : Ms _ _ _ (.vec none 0 25 1 0 ([]) :: _) _ w := hm.nilVec none 25 1
            obtain rfl := Option.some.inj H
            exact leave ht rfl hres ⟨none, 0, 0, [], rfl, ((hm.pick [0] rfl (by decide)).pickφ [0] rfl).post fun _ h => h⟩
          · replace H := ite_no h14006 H
            refine wpc_no ht rfl (decide_eq_false h14006) ?_
            refine wp_skip ?_
            refine then_normal ?_
            refine wp_seq ?_
            refine wp_seq ?_
            refine wpr ?_
            refine wpl rfl rfl ht (ev_assign ht rfl rfl) ?_
            intro a ht
            refine wpList_nil ?_
            refine then_normal ?_
            refine wp_block ?_
            refine wpLoop (fun q a w => ∃ (ls0_4 : List (List Int)) (xs0_6 : Int) (As0_1 : Option Addr) (cs0_2 : Nat) (ms0_3 : Nat) (vss0_5 : List Value), spec_FullCliques.l0 q t9506 ls0_4 xs0_6 = some r ∧ q ≤ k ∧ Tm 75 [(4, .slice none 0 0), (5, .int .i64 0), (7, .slice A9507 m9509 c9508), (8, .slice As0_1 ms0_3 cs0_2), (9, .int .i64 xs0_6)] a ∧ Ms X (fps []) w0 [.vec A2507 c2508 2 1 m2509 (ints t2506), .vec A9507 c9508 2 1 m9509 (ints t9506), .vec As0_1 cs0_2 25 1 ms0_3 vss0_5, .blk b1 28 (Col.cells x)] [AllInts vss0_5 ls0_4] w) (k0 := k) ⟨([] : List (List Int)), 0, A10506, 0, 0, ([]), H, Nat.le_refl _, ht.sub ⟨rfl, rfl, rfl, rfl, rfl, trivial⟩, (hm.pick [0, 1, 2, 3] rfl (by decide)).pickφ [0] rfl⟩ ?_
            clear H ht hm
            intro q14008 a w hJ
            obtain ⟨ls0_4, xs0_6, As0_1, cs0_2, ms0_3, vss0_5, H, hqq14008, ht, hm⟩ := hJ
            cases q14008 with
            | zero => cases H
            | succ q14008 =>
            rw [spec_FullCliques.l0] at H
            refine wp_seq ?_
            refine wp_seq ?_
            refine wpr ?_
            refine wpl rfl rfl ht (ev_move ht rfl rfl) ?_
            intro a ht
            refine wpl rfl rfl ht (ev_move ht rfl rfl) ?_
            intro a ht
            refine wpl rfl rfl ht (ev_len_of ht rfl rfl und_25 (hm.vec_row 1 rfl)) ?_
            intro a ht
            refine wpl rfl rfl ht (ev_cmp ht rfl rfl rfl rfl) ?_
            intro a ht
            refine wpList_nil ?_
            refine then_normal ?_
            by_cases h14009 : xs0_6 < (t9506.length : Int)
            · replace H := ite_yes h14009 H
              refine wpc_yes ht rfl (decide_eq_true h14009) ?_
              refine wp_skip ?_
              refine then_normal ?_
              refine wp_seq ?_
              refine wp_block ?_
              refine wp_seq ?_
              refine wpr ?_
              refine wpl rfl rfl ht (ev_move ht rfl rfl) ?_
              intro a ht
              refine wpl rfl rfl ht (ev_move ht rfl rfl) ?_
              intro a ht
              obtain ⟨t14010, et14010, H⟩ := bind_get H
              refine wpl rfl rfl ht (ev_index_ints ht rfl rfl rfl so_25 (hm.vec_row 1 rfl) et14010) ?_
              intro a ht
              refine wpl rfl rfl ht (ev_load ht rfl rfl sc_2 (RowAt.cell (hm.vec_row 1 rfl) (ints_get et14010) rfl)) ?_
              intro a ht
              obtain ⟨t14011, et14011, H⟩ := bind_get H
              have hcall := spec_l01Points.calls q14008 _ _ t14010 _ ((fun (hq : Ms _ _ _ ([] ++ [.vec A2507 c2508 2 1 m2509 (ints t2506), .vec A9507 c9508 2 1 m9509 (ints t9506), .vec As0_1 cs0_2 25 1 ms0_3 vss0_5, .blk b1 28 (Col.cells x)]) _ _) => hq.lend (φp := []) (allRO_nil)) (hm.pick (own' := [] ++ [.vec A2507 c2508 2 1 m2509 (ints t2506), .vec A9507 c9508 2 1 m9509 (ints t9506), .vec As0_1 cs0_2 25 1 ms0_3 vss0_5, .blk b1 28 (Col.cells x)]) [0, 1, 2, 3] rfl (by decide))) et14011
              refine wpl_call _ rfl rfl ht rfl rfl rfl rfl can_93 hcall ?_
              clear hcall
              rintro _ w ⟨A14012, c14013, m14014, rfl, hpost⟩ a ht
              replace hm := (hm.pick (own' := [] ++ [.vec A2507 c2508 2 1 m2509 (ints t2506), .vec A9507 c9508 2 1 m9509 (ints t9506), .vec As0_1 cs0_2 25 1 ms0_3 vss0_5, .blk b1 28 (Col.cells x)]) [0, 1, 2, 3] rfl (by decide)).backL hpost
              clear hpost
              refine wpl rfl rfl ht (ev_move ht rfl rfl) ?_
              intro a ht
              refine wpl rfl rfl ht (ev_len_rows ht rfl rfl und_49 (hm.rowsOf 3 0 rfl rfl)) ?_
              intro a ht
              refine wpl rfl rfl ht (ev_assign ht rfl rfl) ?_
              intro a ht
              refine wpl rfl rfl ht (ev_assign ht rfl rfl) ?_
              intro a ht
              refine wpList_nil ?_
              refine then_normal ?_
              refine wp_seq ?_
              refine wpr ?_
              refine wpl rfl rfl ht (ev_move ht rfl rfl) ?_
              intro a ht
              refine wpl rfl rfl ht (ev_move ht rfl rfl) ?_
              intro a ht
              replace hm : Ms _ _ _ _ (IntsAt A14012 c14013 m14014 t14011 :: _) w := hm.shutVec 0 rfl
              replace hm : Ms _ _ _ _ (AllInts ([.slice A14012 m14014 c14013]) ([t14011]) :: _) w := hm.addφ (allInts_cons (hm.ro 0 rfl) (allInts_nil))
              refine wpl_buildSlice (vs := [.slice A14012 m14014 c14013]) rfl rfl ht hm rfl und_49 zo_25 sz1_25 (by decide) rfl rfl rfl ?_
              intro A14015 a ht w hm
              obtain ⟨l14019, el14019, H⟩ := bind_get H
              replace hm : Ms _ _ _ _ (AllInts (vss0_5 ++ ([.slice A14012 m14014 c14013])) l14019 :: _) w := hm.addφ (allInts_append el14019 (hm.ro 2 rfl) (hm.ro 0 rfl))
              refine wpl_concat_rows (r := l14019) 3 0 3 1 rfl rfl ht hm rfl ap_49 rfl rfl rfl rfl rfl rfl el14019 ?_
              intro A14016 c14017 m14018 a ht w hm
              refine wpl rfl rfl ht (ev_assign ht rfl rfl) ?_
              intro a ht
              refine wpList_nil ?_
              refine then_normal ?_
              refine wp_seq ?_
              refine wp_block ?_
              refine wpLoop (fun q a w => ∃ (ls1_1 : List (List Int)) (xs1_3 : Int) (vss1_2 : List Value), spec_FullCliques.l1 q t9506 xs0_6 t14011 ls1_1 xs1_3 = some r ∧ q ≤ q14008 ∧ Tm 75 [(4, .slice none 0 0), (5, .int .i64 0), (7, .slice A9507 m9509 c9508), (8, .slice A14016 m14018 c14017), (9, .int .i64 xs0_6), (10, .slice A14012 m14014 c14013), (32, .int .i64 xs0_6), (33, .slice A9507 m9509 c9508), (34, .int .i64 (t9506.length : Int)), (35, .bool (decide (xs0_6 < (t9506.length : Int)))), (38, .slice A9507 m9509 c9508), (39, .int .i64 xs0_6), (40, .pointer (some (eaddr A9507 xs0_6.toNat 1))), (41, .int .i64 t14010), (42, .slice A14012 m14014 c14013), (44, .int .i64 (ls0_4.length : Int)), (46, .slice A14012 m14014 c14013), (47, .slice A14015 1 1), (48, .slice A14016 m14018 c14017), (11, .int .i64 xs1_3)] a ∧ Ms X (fps []) w0 [.vec A14015 1 25 1 1 ([.slice A14012 m14014 c14013]), .vec A2507 c2508 2 1 m2509 (ints t2506), .vec A9507 c9508 2 1 m9509 (ints t9506), .vec A14016 c14017 25 1 m14018 vss1_2, .blk b1 28 (Col.cells x)] [IntsAt A14012 c14013 m14014 t14011, AllInts ([.slice A14012 m14014 c14013]) ([t14011]), AllInts vss1_2 ls1_1] w) (k0 := q14008) ⟨l14019, (ls0_4.length : Int), (vss0_5 ++ ([.slice A14012 m14014 c14013])), H, Nat.le_refl _, ht.sub ⟨rfl, rfl, rfl, rfl, rfl, rfl, rfl, rfl, rfl, rfl, rfl, rfl, rfl, rfl, rfl, rfl, rfl, rfl, rfl, rfl, trivial⟩, (hm.pick [0, 1, 2, 3, 4] rfl (by decide)).pickφ [2, 1, 0] rfl⟩ ?_
              clear H ht hm
              intro q14020 a w hJ
              obtain ⟨ls1_1, xs1_3, vss1_2, H, hqq14020, ht, hm⟩ := hJ
              cases q14020 with
              | zero => cases H
              | succ q14020 =>
              rw [spec_FullCliques.l1] at H
              refine wp_seq ?_
              refine wp_seq ?_
              refine wpr ?_
              refine wpl rfl rfl ht (ev_move ht rfl rfl) ?_
              intro a ht
              refine wpl rfl rfl ht (ev_cmp ht rfl rfl rfl rfl) ?_
              intro a ht
              refine wpl rfl rfl ht (ev_move ht rfl rfl) ?_
              intro a ht
              by_cases h14021 : xs1_3 > 0
              · replace H := ite_yes h14021 H
                refine wpl_yes rfl ht rfl ((decide_eq_true h14021)) ?_
                refine wpl rfl rfl ht (ev_move ht rfl rfl) ?_
                intro a ht
                refine wpl_yes rfl ht rfl ((decide_eq_true h14021)) ?_
                refine wpl rfl rfl ht (ev_move ht rfl rfl) ?_
                intro a ht
                refine wpl_yes rfl ht rfl ((decide_eq_true h14021)) ?_
                refine wpl rfl rfl ht (ev_move ht rfl rfl) ?_
                intro a ht
                refine wpl_yes rfl ht rfl ((decide_eq_true h14021)) ?_
                refine wpl rfl rfl ht (ev_arith ht rfl rfl rfl rfl) ?_
                intro a ht
                refine wpl_yes rfl ht rfl ((decide_eq_true h14021)) ?_
                obtain ⟨l14022, el14022, H⟩ := bind_get H
                refine wpl rfl rfl ht (ev_index_rows ht rfl rfl rfl so_49 (hm.rowsOf 3 2 rfl rfl) el14022) ?_
                intro a ht
                refine wpl_yes rfl ht rfl ((decide_eq_true h14021)) ?_
                obtain ⟨A14023, c14024, m14025, hv14026, hI⟩ := rowsAt_get (hm.rowsOf 3 2 rfl rfl) el14022
                refine wpl rfl rfl ht (ev_load ht rfl rfl sc_25 (RowsAt.cell (hm.rowsOf 3 2 rfl rfl) hv14026)) ?_
                intro a ht
                replace hm : Ms _ _ _ _ (IntsAt A14023 c14024 m14025 l14022 :: _) w := hm.addφ ((hm.ro 2 rfl).mono fun w h => allInts_at h hv14026 el14022)
                clear hI
                refine wpl_yes rfl ht rfl ((decide_eq_true h14021)) ?_
                obtain ⟨t14027, et14027, H⟩ := bind_get H
                have hcall := spec_l02Before.calls q14020 _ _ A14012 c14013 m14014 A14023 c14024 m14025 t14011 l14022 _ ((fun (hq : Ms _ _ _ ([] ++ [.vec A14015 1 25 1 1 ([.slice A14012 m14014 c14013]), .vec A2507 c2508 2 1 m2509 (ints t2506), .vec A9507 c9508 2 1 m9509 (ints t9506), .vec A14016 c14017 25 1 m14018 vss1_2, .blk b1 28 (Col.cells x)]) _ _) => hq.lend (φp := [IntsAt A14012 c14013 m14014 t14011, IntsAt A14023 c14024 m14025 l14022]) (allRO_cons (hq.lendFact 1 rfl) (allRO_cons (hq.lendFact 0 rfl) (allRO_nil)))) (hm.pick (own' := [] ++ [.vec A14015 1 25 1 1 ([.slice A14012 m14014 c14013]), .vec A2507 c2508 2 1 m2509 (ints t2506), .vec A9507 c9508 2 1 m9509 (ints t9506), .vec A14016 c14017 25 1 m14018 vss1_2, .blk b1 28 (Col.cells x)]) [0, 1, 2, 3, 4] rfl (by decide))) et14027
                refine wpl_call _ rfl rfl ht rfl rfl rfl rfl can_94 hcall ?_
                clear hcall
                rintro _ w ⟨rfl, hpost⟩ a ht
                replace hm := (hm.pick (own' := [] ++ [.vec A14015 1 25 1 1 ([.slice A14012 m14014 c14013]), .vec A2507 c2508 2 1 m2509 (ints t2506), .vec A9507 c9508 2 1 m9509 (ints t9506), .vec A14016 c14017 25 1 m14018 vss1_2, .blk b1 28 (Col.cells x)]) [0, 1, 2, 3, 4] rfl (by decide)).backL hpost
                clear hpost
                refine wpl rfl rfl ht (ev_pick_yes ht rfl rfl (decide_eq_true h14021) rfl) ?_
                intro a ht
                refine wpList_nil ?_
                refine then_normal ?_
                by_cases h14028 : t14027 = true
                · replace H := ite_yes h14028 H
                  refine wpc_yes ht rfl h14028 ?_
                  refine wp_skip ?_
                  refine then_normal ?_
                  refine wp_block ?_
                  refine wp_seq ?_
                  refine wpr ?_
                  refine wpl rfl rfl ht (ev_move ht rfl rfl) ?_
                  intro a ht
                  refine wpl rfl rfl ht (ev_move ht rfl rfl) ?_
                  intro a ht
                  refine wpl rfl rfl ht (ev_move ht rfl rfl) ?_
                  intro a ht
                  refine wpl rfl rfl ht (ev_move ht rfl rfl) ?_
                  intro a ht
                  refine wpl rfl rfl ht (ev_arith ht rfl rfl rfl rfl) ?_
                  intro a ht
                  obtain ⟨l14029, el14029, H⟩ := bind_get H
                  refine wpl rfl rfl ht (ev_index_rows ht rfl rfl rfl so_49 (hm.rowsOf 3 3 rfl rfl) el14029) ?_
                  intro a ht
                  obtain ⟨A14030, c14031, m14032, hv14033, hI⟩ := rowsAt_get (hm.rowsOf 3 3 rfl rfl) el14029
                  refine wpl rfl rfl ht (ev_load ht rfl rfl sc_25 (RowsAt.cell (hm.rowsOf 3 3 rfl rfl) hv14033)) ?_
                  intro a ht
                  replace hm : Ms _ _ _ _ (IntsAt A14030 c14031 m14032 l14029 :: _) w := hm.addφ ((hm.ro 3 rfl).mono fun w h => allInts_at h hv14033 el14029)
                  clear hI
                  obtain ⟨l14034, el14034, H⟩ := bind_get H
                  refine wpl rfl rfl ht (ev_index_rows ht rfl rfl rfl so_49 (hm.rowsOf 3 4 rfl rfl) el14034) ?_
                  intro a ht
                  replace hm : Ms _ _ _ _ (AllInts (vss1_2.set xs1_3.toNat (.slice A14030 m14032 c14031)) (ls1_1.set xs1_3.toNat l14029) :: _) w := hm.addφ (allInts_set xs1_3.toNat (hm.ro 4 rfl) (hm.ro 0 rfl))
                  refine wpl_store_row 3 rfl rfl ht hm rfl rfl rfl sz1_25 rfl (hm.rowsOf 3 5 rfl rfl) el14034 ?_
                  intro a ht w hm
                  refine wpList_nil ?_
                  refine then_normal ?_
                  refine wpr ?_
                  refine wpl rfl rfl ht (ev_move ht rfl rfl) ?_
                  intro a ht
                  refine wpl rfl rfl ht (ev_arith ht rfl rfl rfl rfl) ?_
                  intro a ht
                  refine wpl rfl rfl ht (ev_assign ht rfl rfl) ?_
                  intro a ht
                  refine wpList_nil ?_
                  refine blk_normal ?_
                  exact then_normal ⟨q14020, by omega, (ls1_1.set xs1_3.toNat l14029), (w64 (xs1_3 - 1)), (vss1_2.set xs1_3.toNat (.slice A14030 m14032 c14031)), H, by omega, ht.sub ⟨rfl, rfl, rfl, rfl, rfl, rfl, rfl, rfl, rfl, rfl, rfl, rfl, rfl, rfl, rfl, rfl, rfl, rfl, rfl, rfl, trivial⟩, (hm.pick [0, 1, 2, 3, 4] rfl (by decide)).pickφ [3, 4, 0] rfl⟩
                · replace H := ite_no h14028 H
                  refine wpc_no ht rfl (Bool.eq_false_iff.mpr h14028) ?_
                  refine wp_exit ?_
                  refine then_exit ?_
                  refine then_exit ?_
                  refine blk_hit ?_
                  refine then_normal ?_
                  refine wpr ?_
                  refine wpl rfl rfl ht (ev_move ht rfl rfl) ?_
                  intro a ht
                  refine wpl rfl rfl ht (ev_move ht rfl rfl) ?_
                  intro a ht
                  refine wpl rfl rfl ht (ev_move ht rfl rfl) ?_
                  intro a ht
                  obtain ⟨l14036, el14036, H⟩ := bind_get H
                  refine wpl rfl rfl ht (ev_index_rows ht rfl rfl rfl so_49 (hm.rowsOf 3 3 rfl rfl) el14036) ?_
                  intro a ht
                  replace hm : Ms _ _ _ _ (AllInts (vss1_2.set xs1_3.toNat (.slice A14012 m14014 c14013)) (ls1_1.set xs1_3.toNat t14011) :: _) w := hm.addφ (allInts_set xs1_3.toNat (hm.ro 3 rfl) (hm.ro 1 rfl))
                  refine wpl_store_row 3 rfl rfl ht hm rfl rfl rfl sz1_25 rfl (hm.rowsOf 3 4 rfl rfl) el14036 ?_
                  intro a ht w hm
                  refine wpList_nil ?_
                  refine blk_normal ?_
                  refine then_normal ?_
                  refine wpr ?_
                  refine wpl rfl rfl ht (ev_move ht rfl rfl) ?_
                  intro a ht
                  refine wpl rfl rfl ht (ev_arith ht rfl rfl rfl rfl) ?_
                  intro a ht
                  refine wpl rfl rfl ht (ev_assign ht rfl rfl) ?_
                  intro a ht
                  refine wpList_nil ?_
                  exact then_normal ⟨q14020, by omega, (ls1_1.set xs1_3.toNat t14011), (w64 (xs0_6 + 1)), A14016, c14017, m14018, (vss1_2.set xs1_3.toNat (.slice A14012 m14014 c14013)), H, by omega, ht.sub ⟨rfl, rfl, rfl, rfl, rfl, trivial⟩, (hm.pick [1, 2, 3, 4] rfl (by decide)).pickφ [0] rfl⟩
              · replace H := ite_no h14021 H
                refine wpl_no rfl rfl ht rfl (by rw [(decide_eq_false h14021)]; decide) ?_
                intro a ht
                refine wpl_no rfl rfl ht rfl (by rw [(decide_eq_false h14021)]; decide) ?_
                intro a ht
                refine wpl_no rfl rfl ht rfl (by rw [(decide_eq_false h14021)]; decide) ?_
                intro a ht
                refine wpl_no rfl rfl ht rfl (by rw [(decide_eq_false h14021)]; decide) ?_
                intro a ht
                refine wpl_no rfl rfl ht rfl (by rw [(decide_eq_false h14021)]; decide) ?_
                intro a ht
                refine wpl_no rfl rfl ht rfl (by rw [(decide_eq_false h14021)]; decide) ?_
                intro a ht
                refine wpl_no rfl rfl ht rfl (by rw [(decide_eq_false h14021)]; decide) ?_
                intro a ht
                refine wpl rfl rfl ht (ev_pick_no ht rfl rfl (decide_eq_false h14021) rfl) ?_
                intro a ht
                refine wpList_nil ?_
                refine then_normal ?_
                refine wpc_no ht rfl rfl ?_
                refine wp_exit ?_
                refine then_exit ?_
                refine then_exit ?_
                refine blk_hit ?_
                refine then_normal ?_
                refine wpr ?_
                refine wpl rfl rfl ht (ev_move ht rfl rfl) ?_
                intro a ht
                refine wpl rfl rfl ht (ev_move ht rfl rfl) ?_
                intro a ht
                refine wpl rfl rfl ht (ev_move ht rfl rfl) ?_
                intro a ht
                obtain ⟨l14038, el14038, H⟩ := bind_get H
                refine wpl rfl rfl ht (ev_index_rows ht rfl rfl rfl so_49 (hm.rowsOf 3 2 rfl rfl) el14038) ?_
                intro a ht
                replace hm : Ms _ _ _ _ (AllInts (vss1_2.set xs1_3.toNat (.slice A14012 m14014 c14013)) (ls1_1.set xs1_3.toNat t14011) :: _) w := hm.addφ (allInts_set xs1_3.toNat (hm.ro 2 rfl) (hm.ro 0 rfl))
                refine wpl_store_row 3 rfl rfl ht hm rfl rfl rfl sz1_25 rfl (hm.rowsOf 3 3 rfl rfl) el14038 ?_
                intro a ht w hm
                refine wpList_nil ?_
                refine blk_normal ?_
                refine then_normal ?_
                refine wpr ?_
                refine wpl rfl rfl ht (ev_move ht rfl rfl) ?_
                intro a ht
                refine wpl rfl rfl ht (ev_arith ht rfl rfl rfl rfl) ?_
                intro a ht
                refine wpl rfl rfl ht (ev_assign ht rfl rfl) ?_
                intro a ht
                refine wpList_nil ?_
                exact then_normal ⟨q14020, by omega, (ls1_1.set xs1_3.toNat t14011), (w64 (xs0_6 + 1)), A14016, c14017, m14018, (vss1_2.set xs1_3.toNat (.slice A14012 m14014 c14013)), H, by omega, ht.sub ⟨rfl, rfl, rfl, rfl, rfl, trivial⟩, (hm.pick [1, 2, 3, 4] rfl (by decide)).pickφ [0] rfl⟩
            · replace H := ite_no h14009 H
              refine wpc_no ht rfl (decide_eq_false h14009) ?_
              refine wp_exit ?_
              refine then_exit ?_
              refine then_exit ?_
              refine blk_hit ?_
              refine then_normal ?_
              refine wp_seq ?_
              refine wpr ?_
              refine wpl rfl rfl ht (ev_move ht rfl rfl) ?_
              intro a ht
              refine wpl rfl rfl ht (ev_assign ht rfl rfl) ?_
              intro a ht
              refine wpl rfl rfl ht (ev_assign ht rfl rfl) ?_
              intro a ht
              refine wpList_nil ?_
              refine then_normal ?_
              refine wp_ret ?_
              have hres := ht.res (P := Try.prog) (w := w) (rs := [.tmp 4, .tmp 5]) (vs := [.slice As0_1 ms0_3 cs0_2, .int .i64 0]) (.tmp rfl (.tmp rfl .nil))
              obtain rfl := Option.some.inj H
              exact leave ht rfl hres ⟨As0_1, cs0_2, ms0_3, vss0_5, rfl, ((hm.pick [2] rfl (by decide)).pickφ [0] rfl).post fun _ h => h⟩
        · refine wph_step rfl ?_
          replace hm : Ms _ _ _ _ (AllInts ([]) ([] : List (List Int)) :: _) w := hm.addφ (allInts_nil)
          refine wpl_buildSlice (vs := []) rfl rfl ht hm rfl und_49 zo_25 sz1_25 (by decide) rfl rfl rfl ?_
          intro A10506 a ht w hm
          have hS : Ms X (fps []) w0 [.blk b1 28 (Col.cells x)] [IntsAt none 0 0 ([] : List Int)] w := (hm.pick [3] rfl (by decide)).pickφ [1] rfl
          refine wpList_nil (qn ⟨hS, ?_⟩)
          refine wph_one (i := 9) (by kernel_rfl) (wph_step rfl ?_)
          obtain ⟨t9506, et9506, H⟩ := bind_get H
          have hcall := spec_l02Full.calls k _ _ A2507 c2508 m2509 A8506 0 0 t2506 0 (w64 ((shlI .i64 1 (wu64 x.p)) - 1)) 0 ([] : List Int) 201 _ ((fun (hq : Ms _ _ _ ([.vec A8506 0 2 1 0 (ints ([] : List Int))] ++ [.vec A10506 0 25 1 0 ([]), .vec A2507 c2508 2 1 m2509 (ints t2506), .blk b1 28 (Col.cells x)]) _ _) => hq.lend (φp := [IntsAt A2507 c2508 m2509 t2506]) (allRO_cons (hq.lendVec 1 rfl) (allRO_nil))) (hm.pick (own' := [.vec A8506 0 2 1 0 (ints ([] : List Int))] ++ [.vec A10506 0 25 1 0 ([]), .vec A2507 c2508 2 1 m2509 (ints t2506), .blk b1 28 (Col.cells x)]) [1, 0, 2, 3] rfl (by decide))) et9506
          refine wpl_call _ rfl rfl ht rfl rfl rfl rfl can_92 hcall ?_
          clear hcall
          rintro _ w ⟨A9507, c9508, m9509, rfl, hpost⟩ a ht
          replace hm := (hm.pick (own' := [.vec A8506 0 2 1 0 (ints ([] : List Int))] ++ [.vec A10506 0 25 1 0 ([]), .vec A2507 c2508 2 1 m2509 (ints t2506), .blk b1 28 (Col.cells x)]) [1, 0, 2, 3] rfl (by decide)).backL hpost
          clear hpost
          have hS : Ms X (fps []) w0 [.blk b1 28 (Col.cells x)] [IntsAt none 0 0 ([] : List Int)] w := (hm.pick [3] rfl (by decide)).pickφ [1] rfl
          refine wpList_nil (qn ⟨hS, ?_⟩)
          refine wph_take (i := 11) rfl (by kernel_rfl) (by kernel_rfl) (by kernel_rfl) (fun _ _ _ h => h) rfl ht hS (wanted_plain rfl) (fun w hm => ev_assign ht rfl rfl) ?_
          intro a ht
          refine wph_take (i := 12) rfl (by kernel_rfl) (by kernel_rfl) (by kernel_rfl) (fun _ _ _ h => h) rfl ht hS (wanted_plain rfl) (fun w hm => ev_assign ht rfl rfl) ?_
          intro a ht
          refine wph_done (by kernel_rfl) ?_
          replace hm := hm.pick (own' := [.vec A2507 c2508 2 1 m2509 (ints t2506), .vec A9507 c9508 2 1 m9509 (ints t9506), .vec A10506 0 25 1 0 ([]), .blk b1 28 (Col.cells x)]) [2, 0, 1, 3] rfl (by decide)
          refine then_normal ?_
          refine wp_seq ?_
          refine wp_seq ?_
          refine wpr ?_
          refine wpl rfl rfl ht (ev_move ht rfl rfl) ?_
          intro a ht
          refine wpl rfl rfl ht (ev_len_of ht rfl rfl und_25 (hm.vec_row 1 rfl)) ?_
          intro a ht
          refine wpl rfl rfl ht (ev_cmp ht rfl rfl rfl rfl) ?_
          intro a ht
          refine wpList_nil ?_
          refine then_normal ?_
          by_cases h14006 : (t9506.length : Int) > 200
          · replace H := ite_yes h14006 H
            refine wpc_yes ht rfl (decide_eq_true h14006) ?_
            refine wp_seq ?_
            refine wpr ?_
            refine wpl rfl rfl ht (ev_assign ht rfl rfl) ?_
            intro a ht
            refine wpl rfl rfl ht (ev_assign ht rfl rfl) ?_
            intro a ht
            refine wpList_nil ?_
            refine then_normal ?_
            refine wp_ret ?_
            refine then_ret ?_
            have hres := ht.res (P := Try.prog) (w := w) (rs := [.tmp 4, .tmp 5]) (vs := [.slice none 0 0, .int .i64 3]) (.tmp rfl (.tmp rfl .nil))
            replace hm : Ms _ _ _ _ (AllInts ([]) ([] : List (List Int)) :: _) w := hm.addφ allInts_nil
            replace hm : Ms _ _ _ (.vec none 0 25 1 0 ([]) :: _) _ w := hm.nilVec none 25 1
            obtain rfl := Option.some.inj H
            exact leave ht rfl hres ⟨none, 0, 0, [], rfl, ((hm.pick [0] rfl (by decide)).pickφ [0] rfl).post fun _ h => h⟩
          · replace H := ite_no h14006 H
            refine wpc_no ht rfl (decide_eq_false h14006) ?_
            refine wp_skip ?_
            refine then_normal ?_
            refine wp_seq ?_
            refine wp_seq ?_
            refine wpr ?_
            refine wpl rfl rfl ht (ev_assign ht rfl rfl) ?_
            intro a ht
            refine wpList_nil ?_
            refine then_normal ?_
            refine wp_block ?_
            refine wpLoop (fun q a w => ∃ (ls0_4 : List (List Int)) (xs0_6 : Int) (As0_1 : Option Addr) (cs0_2 : Nat) (ms0_3 : Nat) (vss0_5 : List Value), spec_FullCliques.l0 q t9506 ls0_4 xs0_6 = some r ∧ q ≤ k ∧ Tm 75 [(4, .slice none 0 0), (5, .int .i64 0), (7, .slice A9507 m9509 c9508), (8, .slice As0_1 ms0_3 cs0_2), (9, .int .i64 xs0_6)] a ∧ Ms X (fps []) w0 [.vec A2507 c2508 2 1 m2509 (ints t2506), .vec A9507 c9508 2 1 m9509 (ints t9506), .vec As0_1 cs0_2 25 1 ms0_3 vss0_5, .blk b1 28 (Col.cells x)] [AllInts vss0_5 ls0_4] w) (k0 := k) ⟨([] : List (List Int)), 0, A10506, 0, 0, ([]), H, Nat.le_refl _, ht.sub ⟨rfl, rfl, rfl, rfl, rfl, trivial⟩, (hm.pick [0, 1, 2, 3] rfl (by decide)).pickφ [0] rfl⟩ ?_
            clear H ht hm
            intro q14008 a w hJ
            obtain ⟨ls0_4, xs0_6, As0_1, cs0_2, ms0_3, vss0_5, H, hqq14008, ht, hm⟩ := hJ
            cases q14008 with
            | zero => cases H
            | succ q14008 =>
            rw [spec_FullCliques.l0] at H
            refine wp_seq ?_
            refine wp_seq ?_
            refine wpr ?_
            refine wpl rfl rfl ht (ev_move ht rfl rfl) ?_
            intro a ht
            refine wpl rfl rfl ht (ev_move ht rfl rfl) ?_
            intro a ht
            refine wpl rfl rfl ht (ev_len_of ht rfl rfl und_25 (hm.vec_row 1 rfl)) ?_
            intro a ht
            refine wpl rfl rfl ht (ev_cmp ht rfl rfl rfl rfl) ?_
            intro a ht
            refine wpList_nil ?_
            refine then_normal ?_
            by_cases h14009 : xs0_6 < (t9506.length : Int)
            · replace H := ite_yes h14009 H
              refine wpc_yes ht rfl (decide_eq_true h14009) ?_
              refine wp_skip ?_
              refine then_normal ?_
              refine wp_seq ?_
              refine wp_block ?_
              refine wp_seq ?_
              refine wpr ?_
              refine wpl rfl rfl ht (ev_move ht rfl rfl) ?_
              intro a ht
              refine wpl rfl rfl ht (ev_move ht rfl rfl) ?_
              intro a ht
              obtain ⟨t14010, et14010, H⟩ := bind_get H
              refine wpl rfl rfl ht (ev_index_ints ht rfl rfl rfl so_25 (hm.vec_row 1 rfl) et14010) ?_
              intro a ht
              refine wpl rfl rfl ht (ev_load ht rfl rfl sc_2 (RowAt.cell (hm.vec_row 1 rfl) (ints_get et14010) rfl)) ?_
              intro a ht
              obtain ⟨t14011, et14011, H⟩ := bind_get H
              have hcall := spec_l01Points.calls q14008 _ _ t14010 _ ((fun (hq : Ms _ _ _ ([] ++ [.vec A2507 c2508 2 1 m2509 (ints t2506), .vec A9507 c9508 2 1 m9509 (ints t9506), .vec As0_1 cs0_2 25 1 ms0_3 vss0_5, .blk b1 28 (Col.cells x)]) _ _) => hq.lend (φp := []) (allRO_nil)) (hm.pick (own' := [] ++ [.vec A2507 c2508 2 1 m2509 (ints t2506), .vec A9507 c9508 2 1 m9509 (ints t9506), .vec As0_1 cs0_2 25 1 ms0_3 vss0_5, .blk b1 28 (Col.cells x)]) [0, 1, 2, 3] rfl (by decide))) et14011
              refine wpl_call _ rfl rfl ht rfl rfl rfl rfl can_93 hcall ?_
              clear hcall
              rintro _ w ⟨A14012, c14013, m14014, rfl, hpost⟩ a ht
              replace hm := (hm.pick (own' := [] ++ [.vec A2507 c2508 2 1 m2509 (ints t2506), .vec A9507 c9508 2 1 m9509 (ints t9506), .vec As0_1 cs0_2 25 1 ms0_3 vss0_5, .blk b1 28 (Col.cells x)]) [0, 1, 2, 3] rfl (by decide)).backL hpost
              clear hpost
              refine wpl rfl rfl ht (ev_move ht rfl rfl) ?_
              intro a ht
              refine wpl rfl rfl ht (ev_len_rows ht rfl rfl und_49 (hm.rowsOf 3 0 rfl rfl)) ?_
              intro a ht
              refine wpl rfl rfl ht (ev_assign ht rfl rfl) ?_
              intro a ht
              refine wpl rfl rfl ht (ev_assign ht rfl rfl) ?_
              intro a ht
              refine wpList_nil ?_
              refine then_normal ?_
              refine wp_seq ?_
              refine wpr ?_
              refine wpl rfl rfl ht (ev_move ht rfl rfl) ?_
              intro a ht
              refine wpl rfl rfl ht (ev_move ht rfl rfl) ?_
              intro a ht
              replace hm : Ms _ _ _ _ (IntsAt A14012 c14013 m14014 t14011 :: _) w := hm.shutVec 0 rfl
              replace hm : Ms _ _ _ _ (AllInts ([.slice A14012 m14014 c14013]) ([t14011]) :: _) w := hm.addφ (allInts_cons (hm.ro 0 rfl) (allInts_nil))
              refine wpl_buildSlice (vs := [.slice A14012 m14014 c14013]) rfl rfl ht hm rfl und_49 zo_25 sz1_25 (by decide) rfl rfl rfl ?_
              intro A14015 a ht w hm
              obtain ⟨l14019, el14019, H⟩ := bind_get H
              replace hm : Ms _ _ _ _ (AllInts (vss0_5 ++ ([.slice A14012 m14014 c14013])) l14019 :: _) w := hm.addφ (allInts_append el14019 (hm.ro 2 rfl) (hm.ro 0 rfl))
              refine wpl_concat_rows (r := l14019) 3 0 3 1 rfl rfl ht hm rfl ap_49 rfl rfl rfl rfl rfl rfl el14019 ?_
              intro A14016 c14017 m14018 a ht w hm
              refine wpl rfl rfl ht (ev_assign ht rfl rfl) ?_
              intro a ht
              refine wpList_nil ?_
              refine then_normal ?_
              refine wp_seq ?_
              refine wp_block ?_
              refine wpLoop (fun q a w => ∃ (ls1_1 : List (List Int)) (xs1_3 : Int) (vss1_2 : List Value), spec_FullCliques.l1 q t9506 xs0_6 t14011 ls1_1 xs1_3 = some r ∧ q ≤ q14008 ∧ Tm 75 [(4, .slice none 0 0), (5, .int .i64 0), (7, .slice A9507 m9509 c9508), (8, .slice A14016 m14018 c14017), (9, .int .i64 xs0_6), (10, .slice A14012 m14014 c14013), (32, .int .i64 xs0_6), (33, .slice A9507 m9509 c9508), (34, .int .i64 (t9506.length : Int)), (35, .bool (decide (xs0_6 < (t9506.length : Int)))), (38, .slice A9507 m9509 c9508), (39, .int .i64 xs0_6), (40, .pointer (some (eaddr A9507 xs0_6.toNat 1))), (41, .int .i64 t14010), (42, .slice A14012 m14014 c14013), (44, .int .i64 (ls0_4.length : Int)), (46, .slice A14012 m14014 c14013), (47, .slice A14015 1 1), (48, .slice A14016 m14018 c14017), (11, .int .i64 xs1_3)] a ∧ Ms X (fps []) w0 [.vec A14015 1 25 1 1 ([.slice A14012 m14014 c14013]), .vec A2507 c2508 2 1 m2509 (ints t2506), .vec A9507 c9508 2 1 m9509 (ints t9506), .vec A14016 c14017 25 1 m14018 vss1_2, .blk b1 28 (Col.cells x)] [IntsAt A14012 c14013 m14014 t14011, AllInts ([.slice A14012 m14014 c14013]) ([t14011]), AllInts vss1_2 ls1_1] w) (k0 := q14008) ⟨l14019, (ls0_4.length : Int), (vss0_5 ++ ([.slice A14012 m14014 c14013])), H, Nat.le_refl _, ht.sub ⟨rfl, rfl, rfl, rfl, rfl, rfl, rfl, rfl, rfl, rfl, rfl, rfl, rfl, rfl, rfl, rfl, rfl, rfl, rfl, rfl, trivial⟩, (hm.pick [0, 1, 2, 3, 4] rfl (by decide)).pickφ [2, 1, 0] rfl⟩ ?_
              clear H ht hm
              intro q14020 a w hJ
              obtain ⟨ls1_1, xs1_3, vss1_2, H, hqq14020, ht, hm⟩ := hJ
              cases q14020 with
              | zero => cases H
              | succ q14020 =>
              rw [spec_FullCliques.l1] at H
              refine wp_seq ?_
              refine wp_seq ?_
              refine wpr ?_
              refine wpl rfl rfl ht (ev_move ht rfl rfl) ?_
              intro a ht
              refine wpl rfl rfl ht (ev_cmp ht rfl rfl rfl rfl) ?_
              intro a ht
              refine wpl rfl rfl ht (ev_move ht rfl rfl) ?_
              intro a ht
              by_cases h14021 : xs1_3 > 0
              · replace H := ite_yes h14021 H
                refine wpl_yes rfl ht rfl ((decide_eq_true h14021)) ?_
                refine wpl rfl rfl ht (ev_move ht rfl rfl) ?_
                intro a ht
                refine wpl_yes rfl ht rfl ((decide_eq_true h14021)) ?_
                refine wpl rfl rfl ht (ev_move ht rfl rfl) ?_
                intro a ht
                refine wpl_yes rfl ht rfl ((decide_eq_true h14021)) ?_
                refine wpl rfl rfl ht (ev_move ht rfl rfl) ?_
                intro a ht
                refine wpl_yes rfl ht rfl ((decide_eq_true h14021)) ?_
                refine wpl rfl rfl ht (ev_arith ht rfl rfl rfl rfl) ?_
                intro a ht
                refine wpl_yes rfl ht rfl ((decide_eq_true h14021)) ?_
                obtain ⟨l14022, el14022, H⟩ := bind_get H
                refine wpl rfl rfl ht (ev_index_rows ht rfl rfl rfl so_49 (hm.rowsOf 3 2 rfl rfl) el14022) ?_
                intro a ht
                refine wpl_yes rfl ht rfl ((decide_eq_true h14021)) ?_
                obtain ⟨A14023, c14024, m14025, hv14026, hI⟩ := rowsAt_get (hm.rowsOf 3 2 rfl rfl) el14022
                refine wpl rfl rfl ht (ev_load ht rfl rfl sc_25 (RowsAt.cell (hm.rowsOf 3 2 rfl rfl) hv14026)) ?_
                intro a ht
                replace hm : Ms _ _ _ _ (IntsAt A14023 c14024 m14025 l14022 :: _) w := hm.addφ ((hm.ro 2 rfl).mono fun w h => allInts_at h hv14026 el14022)
                clear hI
                refine wpl_yes rfl ht rfl ((decide_eq_true h14021)) ?_
                obtain ⟨t14027, et14027, H⟩ := bind_get H
                have hcall := spec_l02Before.calls q14020 _ _ A14012 c14013 m14014 A14023 c14024 m14025 t14011 l14022 _ ((fun (hq : Ms _ _ _ ([] ++ [.vec A14015 1 25 1 1 ([.slice A14012 m14014 c14013]), .vec A2507 c2508 2 1 m2509 (ints t2506), .vec A9507 c9508 2 1 m9509 (ints t9506), .vec A14016 c14017 25 1 m14018 vss1_2, .blk b1 28 (Col.cells x)]) _ _) => hq.lend (φp := [IntsAt A14012 c14013 m14014 t14011, IntsAt A14023 c14024 m14025 l14022]) (allRO_cons (hq.lendFact 1 rfl) (allRO_cons (hq.lendFact 0 rfl) (allRO_nil)))) (hm.pick (own' := [] ++ [.vec A14015 1 25 1 1 ([.slice A14012 m14014 c14013]), .vec A2507 c2508 2 1 m2509 (ints t2506), .vec A9507 c9508 2 1 m9509 (ints t9506), .vec A14016 c14017 25 1 m14018 vss1_2, .blk b1 28 (Col.cells x)]) [0, 1, 2, 3, 4] rfl (by decide))) et14027
                refine wpl_call _ rfl rfl ht rfl rfl rfl rfl can_94 hcall ?_
                clear hcall
                rintro _ w ⟨rfl, hpost⟩ a ht
                replace hm := (hm.pick (own' := [] ++ [.vec A14015 1 25 1 1 ([.slice A14012 m14014 c14013]), .vec A2507 c2508 2 1 m2509 (ints t2506), .vec A9507 c9508 2 1 m9509 (ints t9506), .vec A14016 c14017 25 1 m14018 vss1_2, .blk b1 28 (Col.cells x)]) [0, 1, 2, 3, 4] rfl (by decide)).backL hpost
                clear hpost
                refine wpl rfl rfl ht (ev_pick_yes ht rfl rfl (decide_eq_true h14021) rfl) ?_
                intro a ht
                refine wpList_nil ?_
                refine then_normal ?_
                by_cases h14028 : t14027 = true
                · replace H := ite_yes h14028 H
                  refine wpc_yes ht rfl h14028 ?_
                  refine wp_skip ?_
                  refine then_normal ?_
                  refine wp_block ?_
                  refine wp_seq ?_
                  refine wpr ?_
                  refine wpl rfl rfl ht (ev_move ht rfl rfl) ?_
                  intro a ht
                  refine wpl rfl rfl ht (ev_move ht rfl rfl) ?_
                  intro a ht
                  refine wpl rfl rfl ht (ev_move ht rfl rfl) ?_
                  intro a ht
                  refine wpl rfl rfl ht (ev_move ht rfl rfl) ?_
                  intro a ht
                  refine wpl rfl rfl ht (ev_arith ht rfl rfl rfl rfl) ?_
                  intro a ht
                  obtain ⟨l14029, el14029, H⟩ := bind_get H
                  refine wpl rfl rfl ht (ev_index_rows ht rfl rfl rfl so_49 (hm.rowsOf 3 3 rfl rfl) el14029) ?_
                  intro a ht
                  obtain ⟨A14030, c14031, m14032, hv14033, hI⟩ := rowsAt_get (hm.rowsOf 3 3 rfl rfl) el14029
                  refine wpl rfl rfl ht (ev_load ht rfl rfl sc_25 (RowsAt.cell (hm.rowsOf 3 3 rfl rfl) hv14033)) ?_
                  intro a ht
                  replace hm : Ms _ _ _ _ (IntsAt A14030 c14031 m14032 l14029 :: _) w := hm.addφ ((hm.ro 3 rfl).mono fun w h => allInts_at h hv14033 el14029)
                  clear hI
                  obtain ⟨l14034, el14034, H⟩ := bind_get H
                  refine wpl rfl rfl ht (ev_index_rows ht rfl rfl rfl so_49 (hm.rowsOf 3 4 rfl rfl) el14034) ?_
                  intro a ht
                  replace hm : Ms _ _ _ _ (AllInts (vss1_2.set xs1_3.toNat (.slice A14030 m14032 c14031)) (ls1_1.set xs1_3.toNat l14029) :: _) w := hm.addφ (allInts_set xs1_3.toNat (hm.ro 4 rfl) (hm.ro 0 rfl))
                  refine wpl_store_row 3 rfl rfl ht hm rfl rfl rfl sz1_25 rfl (hm.rowsOf 3 5 rfl rfl) el14034 ?_
                  intro a ht w hm
                  refine wpList_nil ?_
                  refine then_normal ?_
                  refine wpr ?_
                  refine wpl rfl rfl ht (ev_move ht rfl rfl) ?_
                  intro a ht
                  refine wpl rfl rfl ht (ev_arith ht rfl rfl rfl rfl) ?_
                  intro a ht
                  refine wpl rfl rfl ht (ev_assign ht rfl rfl) ?_
                  intro a ht
                  refine wpList_nil ?_
                  refine blk_normal ?_
                  exact then_normal ⟨q14020, by omega, (ls1_1.set xs1_3.toNat l14029), (w64 (xs1_3 - 1)), (vss1_2.set xs1_3.toNat (.slice A14030 m14032 c14031)), H, by omega, ht.sub ⟨rfl, rfl, rfl, rfl, rfl, rfl, rfl, rfl, rfl, rfl, rfl, rfl, rfl, rfl, rfl, rfl, rfl, rfl, rfl, rfl, trivial⟩, (hm.pick [0, 1, 2, 3, 4] rfl (by decide)).pickφ [3, 4, 0] rfl⟩
                · replace H := ite_no h14028 H
                  refine wpc_no ht rfl (Bool.eq_false_iff.mpr h14028) ?_
                  refine wp_exit ?_
                  refine then_exit ?_
                  refine then_exit ?_
                  refine blk_hit ?_
                  refine then_normal ?_
                  refine wpr ?_
                  refine wpl rfl rfl ht (ev_move ht rfl rfl) ?_
                  intro a ht
                  refine wpl rfl rfl ht (ev_move ht rfl rfl) ?_
                  intro a ht
                  refine wpl rfl rfl ht (ev_move ht rfl rfl) ?_
                  intro a ht
                  obtain ⟨l14036, el14036, H⟩ := bind_get H
                  refine wpl rfl rfl ht (ev_index_rows ht rfl rfl rfl so_49 (hm.rowsOf 3 3 rfl rfl) el14036) ?_
                  intro a ht
                  replace hm : Ms _ _ _ _ (AllInts (vss1_2.set xs1_3.toNat (.slice A14012 m14014 c14013)) (ls1_1.set xs1_3.toNat t14011) :: _) w := hm.addφ (allInts_set xs1_3.toNat (hm.ro 3 rfl) (hm.ro 1 rfl))
                  refine wpl_store_row 3 rfl rfl ht hm rfl rfl rfl sz1_25 rfl (hm.rowsOf 3 4 rfl rfl) el14036 ?_
                  intro a ht w hm
                  refine wpList_nil ?_
                  refine blk_normal ?_
                  refine then_normal ?_
                  refine wpr ?_
                  refine wpl rfl rfl ht (ev_move ht rfl rfl) ?_
                  intro a ht
                  refine wpl rfl rfl ht (ev_arith ht rfl rfl rfl rfl) ?_
                  intro a ht
                  refine wpl rfl rfl ht (ev_assign ht rfl rfl) ?_
                  intro a ht
                  refine wpList_nil ?_
                  exact then_normal ⟨q14020, by omega, (ls1_1.set xs1_3.toNat t14011), (w64 (xs0_6 + 1)), A14016, c14017, m14018, (vss1_2.set xs1_3.toNat (.slice A14012 m14014 c14013)), H, by omega, ht.sub ⟨rfl, rfl, rfl, rfl, rfl, trivial⟩, (hm.pick [1, 2, 3, 4] rfl (by decide)).pickφ [0] rfl⟩
              · replace H := ite_no h14021 H
                refine wpl_no rfl rfl ht rfl (by rw [(decide_eq_false h14021)]; decide) ?_
                intro a ht
                refine wpl_no rfl rfl ht rfl (by rw [(decide_eq_false h14021)]; decide) ?_
                intro a ht
                refine wpl_no rfl rfl ht rfl (by rw [(decide_eq_false h14021)]; decide) ?_
                intro a ht
                refine wpl_no rfl rfl ht rfl (by rw [(decide_eq_false h14021)]; decide) ?_
                intro a ht
                refine wpl_no rfl rfl ht rfl (by rw [(decide_eq_false h14021)]; decide) ?_
                intro a ht
                refine wpl_no rfl rfl ht rfl (by rw [(decide_eq_false h14021)]; decide) ?_
                intro a ht
                refine wpl_no rfl rfl ht rfl (by rw [(decide_eq_false h14021)]; decide) ?_
                intro a ht
                refine wpl rfl rfl ht (ev_pick_no ht rfl rfl (decide_eq_false h14021) rfl) ?_
                intro a ht
                refine wpList_nil ?_
                refine then_normal ?_
                refine wpc_no ht rfl rfl ?_
                refine wp_exit ?_
                refine then_exit ?_
                refine then_exit ?_
                refine blk_hit ?_
                refine then_normal ?_
                refine wpr ?_
                refine wpl rfl rfl ht (ev_move ht rfl rfl) ?_
                intro a ht
                refine wpl rfl rfl ht (ev_move ht rfl rfl) ?_
                intro a ht
                refine wpl rfl rfl ht (ev_move ht rfl rfl) ?_
                intro a ht
                obtain ⟨l14038, el14038, H⟩ := bind_get H
                refine wpl rfl rfl ht (ev_index_rows ht rfl rfl rfl so_49 (hm.rowsOf 3 2 rfl rfl) el14038) ?_
                intro a ht
                replace hm : Ms _ _ _ _ (AllInts (vss1_2.set xs1_3.toNat (.slice A14012 m14014 c14013)) (ls1_1.set xs1_3.toNat t14011) :: _) w := hm.addφ (allInts_set xs1_3.toNat (hm.ro 2 rfl) (hm.ro 0 rfl))
                refine wpl_store_row 3 rfl rfl ht hm rfl rfl rfl sz1_25 rfl (hm.rowsOf 3 3 rfl rfl) el14038 ?_
                intro a ht w hm
                refine wpList_nil ?_
                refine blk_normal ?_
                refine then_normal ?_
                refine wpr ?_
                refine wpl rfl rfl ht (ev_move ht rfl rfl) ?_
                intro a ht
                refine wpl rfl rfl ht (ev_arith ht rfl rfl rfl rfl) ?_
                intro a ht
                refine wpl rfl rfl ht (ev_assign ht rfl rfl) ?_
                intro a ht
                refine wpList_nil ?_
                exact then_normal ⟨q14020, by omega, (ls1_1.set xs1_3.toNat t14011), (w64 (xs0_6 + 1)), A14016, c14017, m14018, (vss1_2.set xs1_3.toNat (.slice A14012 m14014 c14013)), H, by omega, ht.sub ⟨rfl, rfl, rfl, rfl, rfl, trivial⟩, (hm.pick [1, 2, 3, 4] rfl (by decide)).pickφ [0] rfl⟩
            · replace H := ite_no h14009 H
              refine wpc_no ht rfl (decide_eq_false h14009) ?_
              refine wp_exit ?_
              refine then_exit ?_
              refine then_exit ?_
              refine blk_hit ?_
              refine then_normal ?_
              refine wp_seq ?_
              refine wpr ?_
              refine wpl rfl rfl ht (ev_move ht rfl rfl) ?_
              intro a ht
              refine wpl rfl rfl ht (ev_assign ht rfl rfl) ?_
              intro a ht
              refine wpl rfl rfl ht (ev_assign ht rfl rfl) ?_
              intro a ht
              refine wpList_nil ?_
              refine then_normal ?_
              refine wp_ret ?_
              have hres := ht.res (P := Try.prog) (w := w) (rs := [.tmp 4, .tmp 5]) (vs := [.slice As0_1 ms0_3 cs0_2, .int .i64 0]) (.tmp rfl (.tmp rfl .nil))
              obtain rfl := Option.some.inj H
              exact leave ht rfl hres ⟨As0_1, cs0_2, ms0_3, vss0_5, rfl, ((hm.pick [2] rfl (by decide)).pickφ [0] rfl).post fun _ h => h⟩
      · refine wph_step rfl ?_
        replace hm : Ms _ _ _ _ (AllInts ([]) ([] : List (List Int)) :: _) w := hm.addφ (allInts_nil)
        refine wpl_buildSlice (vs := []) rfl rfl ht hm rfl und_49 zo_25 sz1_25 (by decide) rfl rfl rfl ?_
        intro A10506 a ht w hm
        have hS : Ms X (fps []) w0 [.blk b1 28 (Col.cells x)] [IntsAt none 0 0 ([] : List Int)] w := (hm.pick [2] rfl (by decide)).pickφ [1] rfl
        refine wpList_nil (qn ⟨hS, ?_⟩)
        refine wph_one (i := 8) (by kernel_rfl) (wph_step rfl ?_)
        refine wpl_build_ints (l := ([] : List Int)) rfl rfl ht hm rfl und_25 zo_2 sz1_2 (by decide) rfl rfl rfl ?_
        intro A8506 a ht w hm
        have hS : Ms X (fps []) w0 [.blk b1 28 (Col.cells x)] [IntsAt none 0 0 ([] : List Int)] w := (hm.pick [3] rfl (by decide)).pickφ [1] rfl
        refine wpList_nil (qn ⟨hS, ?_⟩)
        refine wph_one (i := 9) (by kernel_rfl) (wph_step rfl ?_)
        obtain ⟨t9506, et9506, H⟩ := bind_get H
        have hcall := spec_l02Full.calls k _ _ A2507 c2508 m2509 A8506 0 0 t2506 0 (w64 ((shlI .i64 1 (wu64 x.p)) - 1)) 0 ([] : List Int) 201 _ ((fun (hq : Ms _ _ _ ([.vec A8506 0 2 1 0 (ints ([] : List Int))] ++ [.vec A10506 0 25 1 0 ([]), .vec A2507 c2508 2 1 m2509 (ints t2506), .blk b1 28 (Col.cells x)]) _ _) => hq.lend (φp := [IntsAt A2507 c2508 m2509 t2506]) (allRO_cons (hq.lendVec 1 rfl) (allRO_nil))) (hm.pick (own' := [.vec A8506 0 2 1 0 (ints ([] : List Int))] ++ [.vec A10506 0 25 1 0 ([]), .vec A2507 c2508 2 1 m2509 (ints t2506), .blk b1 28 (Col.cells x)]) [0, 1, 2, 3] rfl (by decide))) et9506
        refine wpl_call _ rfl rfl ht rfl rfl rfl rfl can_92 hcall ?_
        clear hcall
        rintro _ w ⟨A9507, c9508, m9509, rfl, hpost⟩ a ht
        replace hm := (hm.pick (own' := [.vec A8506 0 2 1 0 (ints ([] : List Int))] ++ [.vec A10506 0 25 1 0 ([]), .vec A2507 c2508 2 1 m2509 (ints t2506), .blk b1 28 (Col.cells x)]) [0, 1, 2, 3] rfl (by decide)).backL hpost
        clear hpost
        have hS : Ms X (fps []) w0 [.blk b1 28 (Col.cells x)] [IntsAt none 0 0 ([] : List Int)] w := (hm.pick [3] rfl (by decide)).pickφ [1] rfl
        refine wpList_nil (qn ⟨hS, ?_⟩)
        refine wph_take (i := 11) rfl (by kernel_rfl) (by kernel_rfl) (by kernel_rfl) (fun _ _ _ h => h) rfl ht hS (wanted_plain rfl) (fun w hm => ev_assign ht rfl rfl) ?_
        intro a ht
        refine wph_take (i := 12) rfl (by kernel_rfl) (by kernel_rfl) (by kernel_rfl) (fun _ _ _ h => h) rfl ht hS (wanted_plain rfl) (fun w hm => ev_assign ht rfl rfl) ?_
        intro a ht
        refine wph_done (by kernel_rfl) ?_
        replace hm := hm.pick (own' := [.vec A2507 c2508 2 1 m2509 (ints t2506), .vec A9507 c9508 2 1 m9509 (ints t9506), .vec A10506 0 25 1 0 ([]), .blk b1 28 (Col.cells x)]) [2, 0, 1, 3] rfl (by decide)
        refine then_normal ?_
        refine wp_seq ?_
        refine wp_seq ?_
        refine wpr ?_
        refine wpl rfl rfl ht (ev_move ht rfl rfl) ?_
        intro a ht
        refine wpl rfl rfl ht (ev_len_of ht rfl rfl und_25 (hm.vec_row 1 rfl)) ?_
        intro a ht
        refine wpl rfl rfl ht (ev_cmp ht rfl rfl rfl rfl) ?_
        intro a ht
        refine wpList_nil ?_
        refine then_normal ?_
        by_cases h14006 : (t9506.length : Int) > 200
        · replace H := ite_yes h14006 H
          refine wpc_yes ht rfl (decide_eq_true h14006) ?_
          refine wp_seq ?_
          refine wpr ?_
          refine wpl rfl rfl ht (ev_assign ht rfl rfl) ?_
          intro a ht
          refine wpl rfl rfl ht (ev_assign ht rfl rfl) ?_
          intro a ht
          refine wpList_nil ?_
          refine then_normal ?_
          refine wp_ret ?_
          refine then_ret ?_
          have hres := ht.res (P := Try.prog) (w := w) (rs := [.tmp 4, .tmp 5]) (vs := [.slice none 0 0, .int .i64 3]) (.tmp rfl (.tmp rfl .nil))
          replace hm : Ms _ _ _ _ (AllInts ([]) ([] : List (List Int)) :: _) w := hm.addφ allInts_nil
          replace hm : Ms _ _ _ (.vec none 0 25 1 0 ([]) :: _) _ w := hm.nilVec none 25 1
          obtain rfl := Option.some.inj H
          exact leave ht rfl hres ⟨none, 0, 0, [], rfl, ((hm.pick [0] rfl (by decide)).pickφ [0] rfl).post fun _ h => h⟩
        · replace H := ite_no h14006 H
          refine wpc_no ht rfl (decide_eq_false h14006) ?_
          refine wp_skip ?_
          refine then_normal ?_
          refine wp_seq ?_
          refine wp_seq ?_
          refine wpr ?_
          refine wpl rfl rfl ht (ev_assign ht rfl rfl) ?_
          intro a ht
          refine wpList_nil ?_
          refine then_normal ?_
          refine wp_block ?_
          refine wpLoop (fun q a w => ∃ (ls0_4 : List (List Int)) (xs0_6 : Int) (As0_1 : Option Addr) (cs0_2 : Nat) (ms0_3 : Nat) (vss0_5 : List Value), spec_FullCliques.l0 q t9506 ls0_4 xs0_6 = some r ∧ q ≤ k ∧ Tm 75 [(4, .slice none 0 0), (5, .int .i64 0), (7, .slice A9507 m9509 c9508), (8, .slice As0_1 ms0_3 cs0_2), (9, .int .i64 xs0_6)] a ∧ Ms X (fps []) w0 [.vec A2507 c2508 2 1 m2509 (ints t2506), .vec A9507 c9508 2 1 m9509 (ints t9506), .vec As0_1 cs0_2 25 1 ms0_3 vss0_5, .blk b1 28 (Col.cells x)] [AllInts vss0_5 ls0_4] w) (k0 := k) ⟨([] : List (List Int)), 0, A10506, 0, 0, ([]), H, Nat.le_refl _, ht.sub ⟨rfl, rfl, rfl, rfl, rfl, trivial⟩, (hm.pick [0, 1, 2, 3] rfl (by decide)).pickφ [0] rfl⟩ ?_
          clear H ht hm
          intro q14008 a w hJ
          obtain ⟨ls0_4, xs0_6, As0_1, cs0_2, ms0_3, vss0_5, H, hqq14008, ht, hm⟩ := hJ
          cases q14008 with
          | zero => cases H
          | succ q14008 =>
          rw [spec_FullCliques.l0] at H
          refine wp_seq ?_
          refine wp_seq ?_
          refine wpr ?_
          refine wpl rfl rfl ht (ev_move ht rfl rfl) ?_
          intro a ht
          refine wpl rfl rfl ht (ev_move ht rfl rfl) ?_
          intro a ht
          refine wpl rfl rfl ht (ev_len_of ht rfl rfl und_25 (hm.vec_row 1 rfl)) ?_
          intro a ht
          refine wpl rfl rfl ht (ev_cmp ht rfl rfl rfl rfl) ?_
          intro a ht
          refine wpList_nil ?_
          refine then_normal ?_
          by_cases h14009 : xs0_6 < (t9506.length : Int)
          · replace H := ite_yes h14009 H
            refine wpc_yes ht rfl (decide_eq_true h14009) ?_
            refine wp_skip ?_
            refine then_normal ?_
            refine wp_seq ?_
            refine wp_block ?_
            refine wp_seq ?_
            refine wpr ?_
            refine wpl rfl rfl ht (ev_move ht rfl rfl) ?_
            intro a ht
            refine wpl rfl rfl ht (ev_move ht rfl rfl) ?_
            intro a ht
            obtain ⟨t14010, et14010, H⟩ := bind_get H
            refine wpl rfl rfl ht (ev_index_ints ht rfl rfl rfl so_25 (hm.vec_row 1 rfl) et14010) ?_
            intro a ht
            refine wpl rfl rfl ht (ev_load ht rfl rfl sc_2 (RowAt.cell (hm.vec_row 1 rfl) (ints_get et14010) rfl)) ?_
            intro a ht
            obtain ⟨t14011, et14011, H⟩ := bind_get H
            have hcall := spec_l01Points.calls q14008 _ _ t14010 _ ((fun (hq : Ms _ _ _ ([] ++ [.vec A2507 c2508 2 1 m2509 (ints t2506), .vec A9507 c9508 2 1 m9509 (ints t9506), .vec As0_1 cs0_2 25 1 ms0_3 vss0_5, .blk b1 28 (Col.cells x)]) _ _) => hq.lend (φp := []) (allRO_nil)) (hm.pick (own' := [] ++ [.vec A2507 c2508 2 1 m2509 (ints t2506), .vec A9507 c9508 2 1 m9509 (ints t9506), .vec As0_1 cs0_2 25 1 ms0_3 vss0_5, .blk b1 28 (Col.cells x)]) [0, 1, 2, 3] rfl (by decide))) et14011
            refine wpl_call _ rfl rfl ht rfl rfl rfl rfl can_93 hcall ?_
            clear hcall
            rintro _ w ⟨A14012, c14013, m14014, rfl, hpost⟩ a ht
            replace hm := (hm.pick (own' := [] ++ [.vec A2507 c2508 2 1 m2509 (ints t2506), .vec A9507 c9508 2 1 m9509 (ints t9506), .vec As0_1 cs0_2 25 1 ms0_3 vss0_5, .blk b1 28 (Col.cells x)]) [0, 1, 2, 3] rfl (by decide)).backL hpost
            clear hpost
            refine wpl rfl rfl ht (ev_move ht rfl rfl) ?_
            intro a ht
            refine wpl rfl rfl ht (ev_len_rows ht rfl rfl und_49 (hm.rowsOf 3 0 rfl rfl)) ?_
            intro a ht
            refine wpl rfl rfl ht (ev_assign ht rfl rfl) ?_
            intro a ht
            refine wpl rfl rfl ht (ev_assign ht rfl rfl) ?_
            intro a ht
            refine wpList_nil ?_
            refine then_normal ?_
            refine wp_seq ?_
            refine wpr ?_
            refine wpl rfl rfl ht (ev_move ht rfl rfl) ?_
            intro a ht
            refine wpl rfl rfl ht (ev_move ht rfl rfl) ?_
            intro a ht
            replace hm : Ms _ _ _ _ (IntsAt A14012 c14013 m14014 t14011 :: _) w := hm.shutVec 0 rfl
            replace hm : Ms _ _ _ _ (AllInts ([.slice A14012 m14014 c14013]) ([t14011]) :: _) w := hm.addφ (allInts_cons (hm.ro 0 rfl) (allInts_nil))
            refine wpl_buildSlice (vs := [.slice A14012 m14014 c14013]) rfl rfl ht hm rfl und_49 zo_25 sz1_25 (by decide) rfl rfl rfl ?_
            intro A14015 a ht w hm
            obtain ⟨l14019, el14019, H⟩ := bind_get H
            replace hm : Ms _ _ _ _ (AllInts (vss0_5 ++ ([.slice A14012 m14014 c14013])) l14019 :: _) w := hm.addφ (allInts_append el14019 (hm.ro 2 rfl) (hm.ro 0 rfl))
            refine wpl_concat_rows (r := l14019) 3 0 3 1 rfl rfl ht hm rfl ap_49 rfl rfl rfl rfl rfl rfl el14019 ?_
            intro A14016 c14017 m14018 a ht w hm
            refine wpl rfl rfl ht (ev_assign ht rfl rfl) ?_
            intro a ht
            refine wpList_nil ?_
            refine then_normal ?_
            refine wp_seq ?_
            refine wp_block ?_
            refine wpLoop (fun q a w => ∃ (ls1_1 : List (List Int)) (xs1_3 : Int) (vss1_2 : List Value), spec_FullCliques.l1 q t9506 xs0_6 t14011 ls1_1 xs1_3 = some r ∧ q ≤ q14008 ∧ Tm 75 [(4, .slice none 0 0), (5, .int .i64 0), (7, .slice A9507 m9509 c9508), (8, .slice A14016 m14018 c14017), (9, .int .i64 xs0_6), (10, .slice A14012 m14014 c14013), (32, .int .i64 xs0_6), (33, .slice A9507 m9509 c9508), (34, .int .i64 (t9506.length : Int)), (35, .bool (decide (xs0_6 < (t9506.length : Int)))), (38, .slice A9507 m9509 c9508), (39, .int .i64 xs0_6), (40, .pointer (some (eaddr A9507 xs0_6.toNat 1))), (41, .int .i64 t14010), (42, .slice A14012 m14014 c14013), (44, .int .i64 (ls0_4.length : Int)), (46, .slice A14012 m14014 c14013), (47, .slice A14015 1 1), (48, .slice A14016 m14018 c14017), (11, .int .i64 xs1_3)] a ∧ Ms X (fps []) w0 [.vec A14015 1 25 1 1 ([.slice A14012 m14014 c14013]), .vec A2507 c2508 2 1 m2509 (ints t2506), .vec A9507 c9508 2 1 m9509 (ints t9506), .vec A14016 c14017 25 1 m14018 vss1_2, .blk b1 28 (Col.cells x)] [IntsAt A14012 c14013 m14014 t14011, AllInts ([.slice A14012 m14014 c14013]) ([t14011]), AllInts vss1_2 ls1_1] w) (k0 := q14008) ⟨l14019, (ls0_4.length : Int), (vss0_5 ++ ([.slice A14012 m14014 c14013])), H, Nat.le_refl _, ht.sub ⟨rfl, rfl, rfl, rfl, rfl, rfl, rfl, rfl, rfl, rfl, rfl, rfl, rfl, rfl, rfl, rfl, rfl, rfl, rfl, rfl, trivial⟩, (hm.pick [0, 1, 2, 3, 4] rfl (by decide)).pickφ [2, 1, 0] rfl⟩ ?_
            clear H ht hm
            intro q14020 a w hJ
            obtain ⟨ls1_1, xs1_3, vss1_2, H, hqq14020, ht, hm⟩ := hJ
            cases q14020 with
            | zero => cases H
            | succ q14020 =>
            rw [spec_FullCliques.l1] at H
            refine wp_seq ?_
            refine wp_seq ?_
            refine wpr ?_
            refine wpl rfl rfl ht (ev_move ht rfl rfl) ?_
            intro a ht
            refine wpl rfl rfl ht (ev_cmp ht rfl rfl rfl rfl) ?_
            intro a ht
            refine wpl rfl rfl ht (ev_move ht rfl rfl) ?_
            intro a ht
            by_cases h14021 : xs1_3 > 0
            · replace H := ite_yes h14021 H
              refine wpl_yes rfl ht rfl ((decide_eq_true h14021)) ?_
              refine wpl rfl rfl ht (ev_move ht rfl rfl) ?_
              intro a ht
              refine wpl_yes rfl ht rfl ((decide_eq_true h14021)) ?_
              refine wpl rfl rfl ht (ev_move ht rfl rfl) ?_
              intro a ht
              refine wpl_yes rfl ht rfl ((decide_eq_true h14021)) ?_
              refine wpl rfl rfl ht (ev_move ht rfl rfl) ?_
              intro a ht
              refine wpl_yes rfl ht rfl ((decide_eq_true h14021)) ?_
              refine wpl rfl rfl ht (ev_arith ht rfl rfl rfl rfl) ?_
              intro a ht
              refine wpl_yes rfl ht rfl ((decide_eq_true h14021)) ?_
              obtain ⟨l14022, el14022, H⟩ := bind_get H
              refine wpl rfl rfl ht (ev_index_rows ht rfl rfl rfl so_49 (hm.rowsOf 3 2 rfl rfl) el14022) ?_
              intro a ht
              refine wpl_yes rfl ht rfl ((decide_eq_true h14021)) ?_
              obtain ⟨A14023, c14024, m14025, hv14026, hI⟩ := rowsAt_get (hm.rowsOf 3 2 rfl rfl) el14022
              refine wpl rfl rfl ht (ev_load ht rfl rfl sc_25 (RowsAt.cell (hm.rowsOf 3 2 rfl rfl) hv14026)) ?_
              intro a ht
              replace hm : Ms _ _ _ _ (IntsAt A14023 c14024 m14025 l14022 :: _) w := hm.addφ ((hm.ro 2 rfl).mono fun w h => allInts_at h hv14026 el14022)
              clear hI
              refine wpl_yes rfl ht rfl ((decide_eq_true h14021)) ?_
              obtain ⟨t14027, et14027, H⟩ := bind_get H
              have hcall := spec_l02Before.calls q14020 _ _ A14012 c14013 m14014 A14023 c14024 m14025 t14011 l14022 _ ((fun (hq : Ms _ _ _ ([] ++ [.vec A14015 1 25 1 1 ([.slice A14012 m14014 c14013]), .vec A2507 c2508 2 1 m2509 (ints t2506), .vec A9507 c9508 2 1 m9509 (ints t9506), .vec A14016 c14017 25 1 m14018 vss1_2, .blk b1 28 (Col.cells x)]) _ _) => hq.lend (φp := [IntsAt A14012 c14013 m14014 t14011, IntsAt A14023 c14024 m14025 l14022]) (allRO_cons (hq.lendFact 1 rfl) (allRO_cons (hq.lendFact 0 rfl) (allRO_nil)))) (hm.pick (own' := [] ++ [.vec A14015 1 25 1 1 ([.slice A14012 m14014 c14013]), .vec A2507 c2508 2 1 m2509 (ints t2506), .vec A9507 c9508 2 1 m9509 (ints t9506), .vec A14016 c14017 25 1 m14018 vss1_2, .blk b1 28 (Col.cells x)]) [0, 1, 2, 3, 4] rfl (by decide))) et14027
              refine wpl_call _ rfl rfl ht rfl rfl rfl rfl can_94 hcall ?_
              clear hcall
              rintro _ w ⟨rfl, hpost⟩ a ht
              replace hm := (hm.pick (own' := [] ++ [.vec A14015 1 25 1 1 ([.slice A14012 m14014 c14013]), .vec A2507 c2508 2 1 m2509 (ints t2506), .vec A9507 c9508 2 1 m9509 (ints t9506), .vec A14016 c14017 25 1 m14018 vss1_2, .blk b1 28 (Col.cells x)]) [0, 1, 2, 3, 4] rfl (by decide)).backL hpost
              clear hpost
              refine wpl rfl rfl ht (ev_pick_yes ht rfl rfl (decide_eq_true h14021) rfl) ?_
              intro a ht
              refine wpList_nil ?_
              refine then_normal ?_
              by_cases h14028 : t14027 = true
              · replace H := ite_yes h14028 H
                refine wpc_yes ht rfl h14028 ?_
                refine wp_skip ?_
                refine then_normal ?_
                refine wp_block ?_
                refine wp_seq ?_
                refine wpr ?_
                refine wpl rfl rfl ht (ev_move ht rfl rfl) ?_
                intro a ht
                refine wpl rfl rfl ht (ev_move ht rfl rfl) ?_
                intro a ht
                refine wpl rfl rfl ht (ev_move ht rfl rfl) ?_
                intro a ht
                refine wpl rfl rfl ht (ev_move ht rfl rfl) ?_
                intro a ht
                refine wpl rfl rfl ht (ev_arith ht rfl rfl rfl rfl) ?_
                intro a ht
                obtain ⟨l14029, el14029, H⟩ := bind_get H
                refine wpl rfl rfl ht (ev_index_rows ht rfl rfl rfl so_49 (hm.rowsOf 3 3 rfl rfl) el14029) ?_
                intro a ht
                obtain ⟨A14030, c14031, m14032, hv14033, hI⟩ := rowsAt_get (hm.rowsOf 3 3 rfl rfl) el14029
                refine wpl rfl rfl ht (ev_load ht rfl rfl sc_25 (RowsAt.cell (hm.rowsOf 3 3 rfl rfl) hv14033)) ?_
                intro a ht
                replace hm : Ms _ _ _ _ (IntsAt A14030 c14031 m14032 l14029 :: _) w := hm.addφ ((hm.ro 3 rfl).mono fun w h => allInts_at h hv14033 el14029)
                clear hI
                obtain ⟨l14034, el14034, H⟩ := bind_get H
                refine wpl rfl rfl ht (ev_index_rows ht rfl rfl rfl so_49 (hm.rowsOf 3 4 rfl rfl) el14034) ?_
                intro a ht
                replace hm : Ms _ _ _ _ (AllInts (vss1_2.set xs1_3.toNat (.slice A14030 m14032 c14031)) (ls1_1.set xs1_3.toNat l14029) :: _) w := hm.addφ (allInts_set xs1_3.toNat (hm.ro 4 rfl) (hm.ro 0 rfl))
                refine wpl_store_row 3 rfl rfl ht hm rfl rfl rfl sz1_25 rfl (hm.rowsOf 3 5 rfl rfl) el14034 ?_
                intro a ht w hm
                refine wpList_nil ?_
                refine then_normal ?_
                refine wpr ?_
                refine wpl rfl rfl ht (ev_move ht rfl rfl) ?_
                intro a ht
                refine wpl rfl rfl ht (ev_arith ht rfl rfl rfl rfl) ?_
                intro a ht
                refine wpl rfl rfl ht (ev_assign ht rfl rfl) ?_
                intro a ht
                refine wpList_nil ?_
                refine blk_normal ?_
                exact then_normal ⟨q14020, by omega, (ls1_1.set xs1_3.toNat l14029), (w64 (xs1_3 - 1)), (vss1_2.set xs1_3.toNat (.slice A14030 m14032 c14031)), H, by omega, ht.sub ⟨rfl, rfl, rfl, rfl, rfl, rfl, rfl, rfl, rfl, rfl, rfl, rfl, rfl, rfl, rfl, rfl, rfl, rfl, rfl, rfl, trivial⟩, (hm.pick [0, 1, 2, 3, 4] rfl (by decide)).pickφ [3, 4, 0] rfl⟩
              · replace H := ite_no h14028 H
                refine wpc_no ht rfl (Bool.eq_false_iff.mpr h14028) ?_
                refine wp_exit ?_
                refine then_exit ?_
                refine then_exit ?_
                refine blk_hit ?_
                refine then_normal ?_
                refine wpr ?_
                refine wpl rfl rfl ht (ev_move ht rfl rfl) ?_
                intro a ht
                refine wpl rfl rfl ht (ev_move ht rfl rfl) ?_
                intro a ht
                refine wpl rfl rfl ht (ev_move ht rfl rfl) ?_
                intro a ht
                obtain ⟨l14036, el14036, H⟩ := bind_get H
                refine wpl rfl rfl ht (ev_index_rows ht rfl rfl rfl so_49 (hm.rowsOf 3 3 rfl rfl) el14036) ?_
                intro a ht
                replace hm : Ms _ _ _ _ (AllInts (vss1_2.set xs1_3.toNat (.slice A14012 m14014 c14013)) (ls1_1.set xs1_3.toNat t14011) :: _) w := hm.addφ (allInts_set xs1_3.toNat (hm.ro 3 rfl) (hm.ro 1 rfl))
                refine wpl_store_row 3 rfl rfl ht hm rfl rfl rfl sz1_25 rfl (hm.rowsOf 3 4 rfl rfl) el14036 ?_
                intro a ht w hm
                refine wpList_nil ?_
                refine blk_normal ?_
                refine then_normal ?_
                refine wpr ?_
                refine wpl rfl rfl ht (ev_move ht rfl rfl) ?_
                intro a ht
                refine wpl rfl rfl ht (ev_arith ht rfl rfl rfl rfl) ?_
                intro a ht
                refine wpl rfl rfl ht (ev_assign ht rfl rfl) ?_
                intro a ht
                refine wpList_nil ?_
                exact then_normal ⟨q14020, by omega, (ls1_1.set xs1_3.toNat t14011), (w64 (xs0_6 + 1)), A14016, c14017, m14018, (vss1_2.set xs1_3.toNat (.slice A14012 m14014 c14013)), H, by omega, ht.sub ⟨rfl, rfl, rfl, rfl, rfl, trivial⟩, (hm.pick [1, 2, 3, 4] rfl (by decide)).pickφ [0] rfl⟩
            · replace H := ite_no h14021 H
              refine wpl_no rfl rfl ht rfl (by rw [(decide_eq_false h14021)]; decide) ?_
              intro a ht
              refine wpl_no rfl rfl ht rfl (by rw [(decide_eq_false h14021)]; decide) ?_
              intro a ht
              refine wpl_no rfl rfl ht rfl (by rw [(decide_eq_false h14021)]; decide) ?_
              intro a ht
              refine wpl_no rfl rfl ht rfl (by rw [(decide_eq_false h14021)]; decide) ?_
              intro a ht
              refine wpl_no rfl rfl ht rfl (by rw [(decide_eq_false h14021)]; decide) ?_
              intro a ht
              refine wpl_no rfl rfl ht rfl (by rw [(decide_eq_false h14021)]; decide) ?_
              intro a ht
              refine wpl_no rfl rfl ht rfl (by rw [(decide_eq_false h14021)]; decide) ?_
              intro a ht
              refine wpl rfl rfl ht (ev_pick_no ht rfl rfl (decide_eq_false h14021) rfl) ?_
              intro a ht
              refine wpList_nil ?_
              refine then_normal ?_
              refine wpc_no ht rfl rfl ?_
              refine wp_exit ?_
              refine then_exit ?_
              refine then_exit ?_
              refine blk_hit ?_
              refine then_normal ?_
              refine wpr ?_
              refine wpl rfl rfl ht (ev_move ht rfl rfl) ?_
              intro a ht
              refine wpl rfl rfl ht (ev_move ht rfl rfl) ?_
              intro a ht
              refine wpl rfl rfl ht (ev_move ht rfl rfl) ?_
              intro a ht
              obtain ⟨l14038, el14038, H⟩ := bind_get H
              refine wpl rfl rfl ht (ev_index_rows ht rfl rfl rfl so_49 (hm.rowsOf 3 2 rfl rfl) el14038) ?_
              intro a ht
              replace hm : Ms _ _ _ _ (AllInts (vss1_2.set xs1_3.toNat (.slice A14012 m14014 c14013)) (ls1_1.set xs1_3.toNat t14011) :: _) w := hm.addφ (allInts_set xs1_3.toNat (hm.ro 2 rfl) (hm.ro 0 rfl))
              refine wpl_store_row 3 rfl rfl ht hm rfl rfl rfl sz1_25 rfl (hm.rowsOf 3 3 rfl rfl) el14038 ?_
              intro a ht w hm
              refine wpList_nil ?_
              refine blk_normal ?_
              refine then_normal ?_
              refine wpr ?_
              refine wpl rfl rfl ht (ev_move ht rfl rfl) ?_
              intro a ht
              refine wpl rfl rfl ht (ev_arith ht rfl rfl rfl rfl) ?_
              intro a ht
              refine wpl rfl rfl ht (ev_assign ht rfl rfl) ?_
              intro a ht
              refine wpList_nil ?_
              exact then_normal ⟨q14020, by omega, (ls1_1.set xs1_3.toNat t14011), (w64 (xs0_6 + 1)), A14016, c14017, m14018, (vss1_2.set xs1_3.toNat (.slice A14012 m14014 c14013)), H, by omega, ht.sub ⟨rfl, rfl, rfl, rfl, rfl, trivial⟩, (hm.pick [1, 2, 3, 4] rfl (by decide)).pickφ [0] rfl⟩
          · replace H := ite_no h14009 H
            refine wpc_no ht rfl (decide_eq_false h14009) ?_
            refine wp_exit ?_
            refine then_exit ?_
            refine then_exit ?_
            refine blk_hit ?_
            refine then_normal ?_
            refine wp_seq ?_
            refine wpr ?_
            refine wpl rfl rfl ht (ev_move ht rfl rfl) ?_
            intro a ht
            refine wpl rfl rfl ht (ev_assign ht rfl rfl) ?_
            intro a ht
            refine wpl rfl rfl ht (ev_assign ht rfl rfl) ?_
            intro a ht
            refine wpList_nil ?_
            refine then_normal ?_
            refine wp_ret ?_
            have hres := ht.res (P := Try.prog) (w := w) (rs := [.tmp 4, .tmp 5]) (vs := [.slice As0_1 ms0_3 cs0_2, .int .i64 0]) (.tmp rfl (.tmp rfl .nil))
            obtain rfl := Option.some.inj H
            exact leave ht rfl hres ⟨As0_1, cs0_2, ms0_3, vss0_5, rfl, ((hm.pick [2] rfl (by decide)).pickφ [0] rfl).post fun _ h => h⟩
    · refine wph_step rfl ?_
      refine wpl_build_ints (l := ([] : List Int)) rfl rfl ht hm rfl und_25 zo_2 sz1_2 (by decide) rfl rfl rfl ?_
      intro A8506 a ht w hm
      have hS : Ms X (fps []) w0 [.blk b1 28 (Col.cells x)] [IntsAt none 0 0 ([] : List Int)] w := (hm.pick [1] rfl (by decide)).pickφ [0] rfl
      refine wpList_nil (qn ⟨hS, ?_⟩)
      refine wph_two (i := 2) (j := 10) (by kernel_rfl) ?_ ?_ 
      · refine wph_step rfl ?_
        obtain ⟨t2506, et2506, H⟩ := bind_get H
        have hcall := spec_l02Rows.calls k _ _ x c _ ((fun (hq : Ms _ _ _ ([] ++ [.vec A8506 0 2 1 0 (ints ([] : List Int)), .blk b1 28 (Col.cells x)]) _ _) => hq.lend (φp := []) (allRO_nil)) (hm.pick (own' := [] ++ [.vec A8506 0 2 1 0 (ints ([] : List Int)), .blk b1 28 (Col.cells x)]) [0, 1] rfl (by decide))) et2506
        refine wpl_call _ rfl rfl ht rfl rfl rfl rfl can_59 hcall ?_
        clear hcall
        rintro _ w ⟨A2507, c2508, m2509, rfl, hpost⟩ a ht
        replace hm := (hm.pick (own' := [] ++ [.vec A8506 0 2 1 0 (ints ([] : List Int)), .blk b1 28 (Col.cells x)]) [0, 1] rfl (by decide)).backL hpost
        clear hpost
        have hS : Ms X (fps []) w0 [.blk b1 28 (Col.cells x)] [IntsAt none 0 0 ([] : List Int)] w := (hm.pick [2] rfl (by decide)).pickφ [0] rfl
        refine wpList_nil (qn ⟨hS, ?_⟩)
        refine wph_two (i := 9) (j := 10) (by kernel_rfl) ?_ ?_ 
        · refine wph_step rfl ?_
          obtain ⟨t9506, et9506, H⟩ := bind_get H
          have hcall := spec_l02Full.calls k _ _ A2507 c2508 m2509 A8506 0 0 t2506 0 (w64 ((shlI .i64 1 (wu64 x.p)) - 1)) 0 ([] : List Int) 201 _ ((fun (hq : Ms _ _ _ ([.vec A8506 0 2 1 0 (ints ([] : List Int))] ++ [.vec A2507 c2508 2 1 m2509 (ints t2506), .blk b1 28 (Col.cells x)]) _ _) => hq.lend (φp := [IntsAt A2507 c2508 m2509 t2506]) (allRO_cons (hq.lendVec 0 rfl) (allRO_nil))) (hm.pick (own' := [.vec A8506 0 2 1 0 (ints ([] : List Int))] ++ [.vec A2507 c2508 2 1 m2509 (ints t2506), .blk b1 28 (Col.cells x)]) [1, 0, 2] rfl (by decide))) et9506
          refine wpl_call _ rfl rfl ht rfl rfl rfl rfl can_92 hcall ?_
          clear hcall
          rintro _ w ⟨A9507, c9508, m9509, rfl, hpost⟩ a ht
          replace hm := (hm.pick (own' := [.vec A8506 0 2 1 0 (ints ([] : List Int))] ++ [.vec A2507 c2508 2 1 m2509 (ints t2506), .blk b1 28 (Col.cells x)]) [1, 0, 2] rfl (by decide)).backL hpost
          clear hpost
          have hS : Ms X (fps []) w0 [.blk b1 28 (Col.cells x)] [IntsAt none 0 0 ([] : List Int)] w := (hm.pick [2] rfl (by decide)).pickφ [0] rfl
          refine wpList_nil (qn ⟨hS, ?_⟩)
          refine wph_take (i := 11) rfl (by kernel_rfl) (by kernel_rfl) (by kernel_rfl) (fun _ _ _ h => h) rfl ht hS (wanted_plain rfl) (fun w hm => ev_assign ht rfl rfl) ?_
          intro a ht
          refine wph_one (i := 10) (by kernel_rfl) (wph_step rfl ?_)
          replace hm : Ms _ _ _ _ (AllInts ([]) ([] : List (List Int)) :: _) w := hm.addφ (allInts_nil)
          refine wpl_buildSlice (vs := []) rfl rfl ht hm rfl und_49 zo_25 sz1_25 (by decide) rfl rfl rfl ?_
          intro A10506 a ht w hm
          have hS : Ms X (fps []) w0 [.blk b1 28 (Col.cells x)] [IntsAt none 0 0 ([] : List Int)] w := (hm.pick [3] rfl (by decide)).pickφ [1] rfl
          refine wpList_nil (qn ⟨hS, ?_⟩)
          refine wph_take (i := 12) rfl (by kernel_rfl) (by kernel_rfl) (by kernel_rfl) (fun _ _ _ h => h) rfl ht hS (wanted_plain rfl) (fun w hm => ev_assign ht rfl rfl) ?_
          intro a ht
          refine wph_done (by kernel_rfl) ?_
          replace hm := hm.pick (own' := [.vec A2507 c2508 2 1 m2509 (ints t2506), .vec A9507 c9508 2 1 m9509 (ints t9506), .vec A10506 0 25 1 0 ([]), .blk b1 28 (Col.cells x)]) [2, 1, 0, 3] rfl (by decide)
          refine then_normal ?_
          refine wp_seq ?_
          refine wp_seq ?_
          refine wpr ?_
          refine wpl rfl rfl ht (ev_move ht rfl rfl) ?_
          intro a ht
          refine wpl rfl rfl ht (ev_len_of ht rfl rfl und_25 (hm.vec_row 1 rfl)) ?_
          intro a ht
          refine wpl rfl rfl ht (ev_cmp ht rfl rfl rfl rfl) ?_
          intro a ht
          refine wpList_nil ?_
          refine then_normal ?_
          by_cases h14006 : (t9506.length : Int) > 200
          · replace H := ite_yes h14006 H
            refine wpc_yes ht rfl (decide_eq_true h14006) ?_
            refine wp_seq ?_
            refine wpr ?_
            refine wpl rfl rfl ht (ev_assign ht rfl rfl) ?_
            intro a ht
            refine wpl rfl rfl ht (ev_assign ht rfl rfl) ?_
            intro a ht
            refine wpList_nil ?_
            refine then_normal ?_
            refine wp_ret ?_
            refine then_ret ?_
            have hres := ht.res (P := Try.prog) (w := w) (rs := [.tmp 4, .tmp 5]) (vs := [.slice none 0 0, .int .i64 3]) (.tmp rfl (.tmp rfl .nil))
            replace hm : Ms _ _ _ _ (AllInts ([]) ([] : List (List Int)) :: _) w := hm.addφ allInts_nil
            replace hm : Ms _ _ _ (.vec none 0 25 1 0 ([]) :: _) _ w := hm.nilVec none 25 1
            obtain rfl := Option.some.inj H
            exact leave ht rfl hres ⟨none, 0, 0, [], rfl, ((hm.pick [0] rfl (by decide)).pickφ [0] rfl).post fun _ h => h⟩
          · replace H := ite_no h14006 H
            refine wpc_no ht rfl (decide_eq_false h14006) ?_
            refine wp_skip ?_
            refine then_normal ?_
            refine wp_seq ?_
            refine wp_seq ?_
            refine wpr ?_
            refine wpl rfl rfl ht (ev_assign ht rfl rfl) ?_
            intro a ht
            refine wpList_nil ?_
            refine then_normal ?_
            refine wp_block ?_
            refine wpLoop (fun q a w => ∃ (ls0_4 : List (List Int)) (xs0_6 : Int) (As0_1 : Option Addr) (cs0_2 : Nat) (ms0_3 : Nat) (vss0_5 : List Value), spec_FullCliques.l0 q t9506 ls0_4 xs0_6 = some r ∧ q ≤ k ∧ Tm 75 [(4, .slice none 0 0), (5, .int .i64 0), (7, .slice A9507 m9509 c9508), (8, .slice As0_1 ms0_3 cs0_2), (9, .int .i64 xs0_6)] a ∧ Ms X (fps []) w0 [.vec A2507 c2508 2 1 m2509 (ints t2506), .vec A9507 c9508 2 1 m9509 (ints t9506), .vec As0_1 cs0_2 25 1 ms0_3 vss0_5, .blk b1 28 (Col.cells x)] [AllInts vss0_5 ls0_4] w) (k0 := k) ⟨([] : List (List Int)), 0, A10506, 0, 0, ([]), H, Nat.le_refl _, ht.sub ⟨rfl, rfl, rfl, rfl, rfl, trivial⟩, (hm.pick [0, 1, 2, 3] rfl (by decide)).pickφ [0] rfl⟩ ?_
            clear H ht hm
            intro q14008 a w hJ
            obtain ⟨ls0_4, xs0_6, As0_1, cs0_2, ms0_3, vss0_5, H, hqq14008, ht, hm⟩ := hJ
            cases q14008 with
            | zero => cases H
            | succ q14008 =>
            rw [spec_FullCliques.l0] at H
            refine wp_seq ?_
            refine wp_seq ?_
            refine wpr ?_
            refine wpl rfl rfl ht (ev_move ht rfl rfl) ?_
            intro a ht
            refine wpl rfl rfl ht (ev_move ht rfl rfl) ?_
            intro a ht
            refine wpl rfl rfl ht (ev_len_of ht rfl rfl und_25 (hm.vec_row 1 rfl)) ?_
            intro a ht
            refine wpl rfl rfl ht (ev_cmp ht rfl rfl rfl rfl) ?_
            intro a ht
            refine wpList_nil ?_
            refine then_normal ?_
            by_cases h14009 : xs0_6 < (t9506.length : Int)
            · replace H := ite_yes h14009 H
              refine wpc_yes ht rfl (decide_eq_true h14009) ?_
              refine wp_skip ?_
              refine then_normal ?_
              refine wp_seq ?_
              refine wp_block ?_
              refine wp_seq ?_
              refine wpr ?_
              refine wpl rfl rfl ht (ev_move ht rfl rfl) ?_
              intro a ht
              refine wpl rfl rfl ht (ev_move ht rfl rfl) ?_
              intro a ht
              obtain ⟨t14010, et14010, H⟩ := bind_get H
              refine wpl rfl rfl ht (ev_index_ints ht rfl rfl rfl so_25 (hm.vec_row 1 rfl) et14010) ?_
              intro a ht
              refine wpl rfl rfl ht (ev_load ht rfl rfl sc_2 (RowAt.cell (hm.vec_row 1 rfl) (ints_get et14010) rfl)) ?_
              intro a ht
              obtain ⟨t14011, et14011, H⟩ := bind_get H
              have hcall := spec_l01Points.calls q14008 _ _ t14010 _ ((fun (hq : Ms _ _ _ ([] ++ [.vec A2507 c2508 2 1 m2509 (ints t2506), .vec A9507 c9508 2 1 m9509 (ints t9506), .vec As0_1 cs0_2 25 1 ms0_3 vss0_5, .blk b1 28 (Col.cells x)]) _ _) => hq.lend (φp := []) (allRO_nil)) (hm.pick (own' := [] ++ [.vec A2507 c2508 2 1 m2509 (ints t2506), .vec A9507 c9508 2 1 m9509 (ints t9506), .vec As0_1 cs0_2 25 1 ms0_3 vss0_5, .blk b1 28 (Col.cells x)]) [0, 1, 2, 3] rfl (by decide))) et14011
              refine wpl_call _ rfl rfl ht rfl rfl rfl rfl can_93 hcall ?_
              clear hcall
              rintro _ w ⟨A14012, c14013, m14014, rfl, hpost⟩ a ht
              replace hm := (hm.pick (own' := [] ++ [.vec A2507 c2508 2 1 m2509 (ints t2506), .vec A9507 c9508 2 1 m9509 (ints t9506), .vec As0_1 cs0_2 25 1 ms0_3 vss0_5, .blk b1 28 (Col.cells x)]) [0, 1, 2, 3] rfl (by decide)).backL hpost
              clear hpost
              refine wpl rfl rfl ht (ev_move ht rfl rfl) ?_
              intro a ht
              refine wpl rfl rfl ht (ev_len_rows ht rfl rfl und_49 (hm.rowsOf 3 0 rfl rfl)) ?_
              intro a ht
              refine wpl rfl rfl ht (ev_assign ht rfl rfl) ?_
              intro a ht
              refine wpl rfl rfl ht (ev_assign ht rfl rfl) ?_
              intro a ht
              refine wpList_nil ?_
              refine then_normal ?_
              refine wp_seq ?_
              refine wpr ?_
              refine wpl rfl rfl ht (ev_move ht rfl rfl) ?_
              intro a ht
              refine wpl rfl rfl ht (ev_move ht rfl rfl) ?_
              intro a ht
              replace hm : Ms _ _ _ _ (IntsAt A14012 c14013 m14014 t14011 :: _) w := hm.shutVec 0 rfl
              replace hm : Ms _ _ _ _ (AllInts ([.slice A14012 m14014 c14013]) ([t14011]) :: _) w := hm.addφ (allInts_cons (hm.ro 0 rfl) (allInts_nil))
              refine wpl_buildSlice (vs := [.slice A14012 m14014 c14013]) rfl rfl ht hm rfl und_49 zo_25 sz1_25 (by decide) rfl rfl rfl ?_
              intro A14015 a ht w hm
              obtain ⟨l14019, el14019, H⟩ := bind_get H
              replace hm : Ms _ _ _ _ (AllInts (vss0_5 ++ ([.slice A14012 m14014 c14013])) l14019 :: _) w := hm.addφ (allInts_append el14019 (hm.ro 2 rfl) (hm.ro 0 rfl))
              refine wpl_concat_rows (r := l14019) 3 0 3 1 rfl rfl ht hm rfl ap_49 rfl rfl rfl rfl rfl rfl el14019 ?_
              intro A14016 c14017 m14018 a ht w hm
              refine wpl rfl rfl ht (ev_assign ht rfl rfl) ?_
              intro a ht
              refine wpList_nil ?_
              refine then_normal ?_
              refine wp_seq ?_
              refine wp_block ?_
              refine wpLoop (fun q a w => ∃ (ls1_1 : List (List Int)) (xs1_3 : Int) (vss1_2 : List Value), spec_FullCliques.l1 q t9506 xs0_6 t14011 ls1_1 xs1_3 = some r ∧ q ≤ q14008 ∧ Tm 75 [(4, .slice none 0 0), (5, .int .i64 0), (7, .slice A9507 m9509 c9508), (8, .slice A14016 m14018 c14017), (9, .int .i64 xs0_6), (10, .slice A14012 m14014 c14013), (32, .int .i64 xs0_6), (33, .slice A9507 m9509 c9508), (34, .int .i64 (t9506.length : Int)), (35, .bool (decide (xs0_6 < (t9506.length : Int)))), (38, .slice A9507 m9509 c9508), (39, .int .i64 xs0_6), (40, .pointer (some (eaddr A9507 xs0_6.toNat 1))), (41, .int .i64 t14010), (42, .slice A14012 m14014 c14013), (44, .int .i64 (ls0_4.length : Int)), (46, .slice A14012 m14014 c14013), (47, .slice A14015 1 1), (48, .slice A14016 m14018 c14017), (11, .int .i64 xs1_3)] a ∧ Ms X (fps []) w0 [.vec A14015 1 25 1 1 ([.slice A14012 m14014 c14013]), .vec A2507 c2508 2 1 m2509 (ints t2506), .vec A9507 c9508 2 1 m9509 (ints t9506), .vec A14016 c14017 25 1 m14018 vss1_2, .blk b1 28 (Col.cells x)] [IntsAt A14012 c14013 m14014 t14011, AllInts ([.slice A14012 m14014 c14013]) ([t14011]), AllInts vss1_2 ls1_1] w) (k0 := q14008) ⟨l14019, (ls0_4.length : Int), (vss0_5 ++ ([.slice A14012 m14014 c14013])), H, Nat.le_refl _, ht.sub ⟨rfl, rfl, rfl, rfl, rfl, rfl, rfl, rfl, rfl, rfl, rfl, rfl, rfl, rfl, rfl, rfl, rfl, rfl, rfl, rfl, trivial⟩, (hm.pick [0, 1, 2, 3, 4] rfl (by decide)).pickφ [2, 1, 0] rfl⟩ ?_
              clear H ht hm
              intro q14020 a w hJ
              obtain ⟨ls1_1, xs1_3, vss1_2, H, hqq14020, ht, hm⟩ := hJ
              cases q14020 with
              | zero => cases H
              | succ q14020 =>
              rw [spec_FullCliques.l1] at H
              refine wp_seq ?_
              refine wp_seq ?_
              refine wpr ?_
              refine wpl rfl rfl ht (ev_move ht rfl rfl) ?_
              intro a ht
              refine wpl rfl rfl ht (ev_cmp ht rfl rfl rfl rfl) ?_
              intro a ht
              refine wpl rfl rfl ht (ev_move ht rfl rfl) ?_
              intro a ht
              by_cases h14021 : xs1_3 > 0
              · replace H := ite_yes h14021 H
                refine wpl_yes rfl ht rfl ((decide_eq_true h14021)) ?_
                refine wpl rfl rfl ht (ev_move ht rfl rfl) ?_
                intro a ht
                refine wpl_yes rfl ht rfl ((decide_eq_true h14021)) ?_
                refine wpl rfl rfl ht (ev_move ht rfl rfl) ?_
                intro a ht
                refine wpl_yes rfl ht rfl ((decide_eq_true h14021)) ?_
                refine wpl rfl rfl ht (ev_move ht rfl rfl) ?_
                intro a ht
                refine wpl_yes rfl ht rfl ((decide_eq_true h14021)) ?_
                refine wpl rfl rfl ht (ev_arith ht rfl rfl rfl rfl) ?_
                intro a ht
                refine wpl_yes rfl ht rfl ((decide_eq_true h14021)) ?_
                obtain ⟨l14022, el14022, H⟩ := bind_get H
                refine wpl rfl rfl ht (ev_index_rows ht rfl rfl rfl so_49 (hm.rowsOf 3 2 rfl rfl) el14022) ?_
                intro a ht
                refine wpl_yes rfl ht rfl ((decide_eq_true h14021)) ?_
                obtain ⟨A14023, c14024, m14025, hv14026, hI⟩ := rowsAt_get (hm.rowsOf 3 2 rfl rfl) el14022
                refine wpl rfl rfl ht (ev_load ht rfl rfl sc_25 (RowsAt.cell (hm.rowsOf 3 2 rfl rfl) hv14026)) ?_
                intro a ht
                replace hm : Ms _ _ _ _ (IntsAt A14023 c14024 m14025 l14022 :: _) w := hm.addφ ((hm.ro 2 rfl).mono fun w h => allInts_at h hv14026 el14022)
                clear hI
                refine wpl_yes rfl ht rfl ((decide_eq_true h14021)) ?_
                obtain ⟨t14027, et14027, H⟩ := bind_get H
                have hcall := spec_l02Before.calls q14020 _ _ A14012 c14013 m14014 A14023 c14024 m14025 t14011 l14022 _ ((fun (hq : Ms _ _ _ ([] ++ [.vec A14015 1 25 1 1 ([.slice A14012 m14014 c14013]), .vec A2507 c2508 2 1 m2509 (ints t2506), .vec A9507 c9508 2 1 m9509 (ints t9506), .vec A14016 c14017 25 1 m14018 vss1_2, .blk b1 28 (Col.cells x)]) _ _) => hq.lend (φp := [IntsAt A14012 c14013 m14014 t14011, IntsAt A14023 c14024 m14025 l14022]) (allRO_cons (hq.lendFact 1 rfl) (allRO_cons (hq.lendFact 0 rfl) (allRO_nil)))) (hm.pick (own' := [] ++ [.vec A14015 1 25 1 1 ([.slice A14012 m14014 c14013]), .vec A2507 c2508 2 1 m2509 (ints t2506), .vec A9507 c9508 2 1 m9509 (ints t9506), .vec A14016 c14017 25 1 m14018 vss1_2, .blk b1 28 (Col.cells x)]) [0, 1, 2, 3, 4] rfl (by decide))) et14027
                refine wpl_call _ rfl rfl ht rfl rfl rfl rfl can_94 hcall ?_
                clear hcall
                rintro _ w ⟨rfl, hpost⟩ a ht
                replace hm := (hm.pick (own' := [] ++ [.vec A14015 1 25 1 1 ([.slice A14012 m14014 c14013]), .vec A2507 c2508 2 1 m2509 (ints t2506), .vec A9507 c9508 2 1 m9509 (ints t9506), .vec A14016 c14017 25 1 m14018 vss1_2, .blk b1 28 (Col.cells x)]) [0, 1, 2, 3, 4] rfl (by decide)).backL hpost
                clear hpost
                refine wpl rfl rfl ht (ev_pick_yes ht rfl rfl (decide_eq_true h14021) rfl) ?_
                intro a ht
                refine wpList_nil ?_
                refine then_normal ?_
                by_cases h14028 : t14027 = true
                · replace H := ite_yes h14028 H
                  refine wpc_yes ht rfl h14028 ?_
                  refine wp_skip ?_
                  refine then_normal ?_
                  refine wp_block ?_
                  refine wp_seq ?_
                  refine wpr ?_
                  refine wpl rfl rfl ht (ev_move ht rfl rfl) ?_
                  intro a ht
                  refine wpl rfl rfl ht (ev_move ht rfl rfl) ?_
                  intro a ht
                  refine wpl rfl rfl ht (ev_move ht rfl rfl) ?_
                  intro a ht
                  refine wpl rfl rfl ht (ev_move ht rfl rfl) ?_
                  intro a ht
                  refine wpl rfl rfl ht (ev_arith ht rfl rfl rfl rfl) ?_
                  intro a ht
                  obtain ⟨l14029, el14029, H⟩ := bind_get H
                  refine wpl rfl rfl ht (ev_index_rows ht rfl rfl rfl so_49 (hm.rowsOf 3 3 rfl rfl) el14029) ?_
                  intro a ht
                  obtain ⟨A14030, c14031, m14032, hv14033, hI⟩ := rowsAt_get (hm.rowsOf 3 3 rfl rfl) el14029
                  refine wpl rfl rfl ht (ev_load ht rfl rfl sc_25 (RowsAt.cell (hm.rowsOf 3 3 rfl rfl) hv14033)) ?_
                  intro a ht
                  replace hm : Ms _ _ _ _ (IntsAt A14030 c14031 m14032 l14029 :: _) w := hm.addφ ((hm.ro 3 rfl).mono fun w h => allInts_at h hv14033 el14029)
                  clear hI
                  obtain ⟨l14034, el14034, H⟩ := bind_get H
                  refine wpl rfl rfl ht (ev_index_rows ht rfl rfl rfl so_49 (hm.rowsOf 3 4 rfl rfl) el14034) ?_
                  intro a ht
                  replace hm : Ms _ _ _ _ (AllInts (vss1_2.set xs1_3.toNat (.slice A14030 m14032 c14031)) (ls1_1.set xs1_3.toNat l14029) :: _) w := hm.addφ (allInts_set xs1_3.toNat (hm.ro 4 rfl) (hm.ro 0 rfl))
                  refine wpl_store_row 3 rfl rfl ht hm rfl rfl rfl sz1_25 rfl (hm.rowsOf 3 5 rfl rfl) el14034 ?_
                  intro a ht w hm
                  refine wpList_nil ?_
                  refine then_normal ?_
                  refine wpr ?_
                  refine wpl rfl rfl ht (ev_move ht rfl rfl) ?_
                  intro a ht
                  refine wpl rfl rfl ht (ev_arith ht rfl rfl rfl rfl) ?_
                  intro a ht
                  refine wpl rfl rfl ht (ev_assign ht rfl rfl) ?_
                  intro a ht
                  refine wpList_nil ?_
                  refine blk_normal ?_
                  exact then_normal ⟨q14020, by omega, (ls1_1.set xs1_3.toNat l14029), (w64 (xs1_3 - 1)), (vss1_2.set xs1_3.toNat (.slice A14030 m14032 c14031)), H, by omega, ht.sub ⟨rfl, rfl, rfl, rfl, rfl, rfl, rfl, rfl, rfl, rfl, rfl, rfl, rfl, rfl, rfl, rfl, rfl, rfl, rfl, rfl, trivial⟩, (hm.pick [0, 1, 2, 3, 4] rfl (by decide)).pickφ [3, 4, 0] rfl⟩
                · replace H := ite_no h14028 H
                  refine wpc_no ht rfl (Bool.eq_false_iff.mpr h14028) ?_
                  refine wp_exit ?_
                  refine then_exit ?_
                  refine then_exit ?_
                  refine blk_hit ?_
                  refine then_normal ?_
                  refine wpr ?_
                  refine wpl rfl rfl ht (ev_move ht rfl rfl) ?_
                  intro a ht
                  refine wpl rfl rfl ht (ev_move ht rfl rfl) ?_
                  intro a ht
                  refine wpl rfl rfl ht (ev_move ht rfl rfl) ?_
                  intro a ht
                  obtain ⟨l14036, el14036, H⟩ := bind_get H
                  refine wpl rfl rfl ht (ev_index_rows ht rfl rfl rfl so_49 (hm.rowsOf 3 3 rfl rfl) el14036) ?_
                  intro a ht
                  replace hm : Ms _ _ _ _ (AllInts (vss1_2.set xs1_3.toNat (.slice A14012 m14014 c14013)) (ls1_1.set xs1_3.toNat t14011) :: _) w := hm.addφ (allInts_set xs1_3.toNat (hm.ro 3 rfl) (hm.ro 1 rfl))
                  refine wpl_store_row 3 rfl rfl ht hm rfl rfl rfl sz1_25 rfl (hm.rowsOf 3 4 rfl rfl) el14036 ?_
                  intro a ht w hm
                  refine wpList_nil ?_
                  refine blk_normal ?_
                  refine then_normal ?_
                  refine wpr ?_
                  refine wpl rfl rfl ht (ev_move ht rfl rfl) ?_
                  intro a ht
                  refine wpl rfl rfl ht (ev_arith ht rfl rfl rfl rfl) ?_
                  intro a ht
                  refine wpl rfl rfl ht (ev_assign ht rfl rfl) ?_
                  intro a ht
                  refine wpList_nil ?_
                  exact then_normal ⟨q14020, by omega, (ls1_1.set xs1_3.toNat t14011), (w64 (xs0_6 + 1)), A14016, c14017, m14018, (vss1_2.set xs1_3.toNat (.slice A14012 m14014 c14013)), H, by omega, ht.sub ⟨rfl, rfl, rfl, rfl, rfl, trivial⟩, (hm.pick [1, 2, 3, 4] rfl (by decide)).pickφ [0] rfl⟩
              · replace H := ite_no h14021 H
                refine wpl_no rfl rfl ht rfl (by rw [(decide_eq_false h14021)]; decide) ?_
                intro a ht
                refine wpl_no rfl rfl ht rfl (by rw [(decide_eq_false h14021)]; decide) ?_
                intro a ht
                refine wpl_no rfl rfl ht rfl (by rw [(decide_eq_false h14021)]; decide) ?_
                intro a ht
                refine wpl_no rfl rfl ht rfl (by rw [(decide_eq_false h14021)]; decide) ?_
                intro a ht
                refine wpl_no rfl rfl ht rfl (by rw [(decide_eq_false h14021)]; decide) ?_
                intro a ht
                refine wpl_no rfl rfl ht rfl (by rw [(decide_eq_false h14021)]; decide) ?_
                intro a ht
                refine wpl_no rfl rfl ht rfl (by rw [(decide_eq_false h14021)]; decide) ?_
                intro a ht
                refine wpl rfl rfl ht (ev_pick_no ht rfl rfl (decide_eq_false h14021) rfl) ?_
                intro a ht
                refine wpList_nil ?_
                refine then_normal ?_
                refine wpc_no ht rfl rfl ?_
                refine wp_exit ?_
                refine then_exit ?_
                refine then_exit ?_
                refine blk_hit ?_
                refine then_normal ?_
                refine wpr ?_
                refine wpl rfl rfl ht (ev_move ht rfl rfl) ?_
                intro a ht
                refine wpl rfl rfl ht (ev_move ht rfl rfl) ?_
                intro a ht
                refine wpl rfl rfl ht (ev_move ht rfl rfl) ?_
                intro a ht
                obtain ⟨l14038, el14038, H⟩ := bind_get H
                refine wpl rfl rfl ht (ev_index_rows ht rfl rfl rfl so_49 (hm.rowsOf 3 2 rfl rfl) el14038) ?_
                intro a ht
                replace hm : Ms _ _ _ _ (AllInts (vss1_2.set xs1_3.toNat (.slice A14012 m14014 c14013)) (ls1_1.set xs1_3.toNat t14011) :: _) w := hm.addφ (allInts_set xs1_3.toNat (hm.ro 2 rfl) (hm.ro 0 rfl))
                refine wpl_store_row 3 rfl rfl ht hm rfl rfl rfl sz1_25 rfl (hm.rowsOf 3 3 rfl rfl) el14038 ?_
                intro a ht w hm
                refine wpList_nil ?_
                refine blk_normal ?_
                refine then_normal ?_
                refine wpr ?_
                refine wpl rfl rfl ht (ev_move ht rfl rfl) ?_
                intro a ht
                refine wpl rfl rfl ht (ev_arith ht rfl rfl rfl rfl) ?_
                intro a ht
                refine wpl rfl rfl ht (ev_assign ht rfl rfl) ?_
                intro a ht
                refine wpList_nil ?_
                exact then_normal ⟨q14020, by omega, (ls1_1.set xs1_3.toNat t14011), (w64 (xs0_6 + 1)), A14016, c14017, m14018, (vss1_2.set xs1_3.toNat (.slice A14012 m14014 c14013)), H, by omega, ht.sub ⟨rfl, rfl, rfl, rfl, rfl, trivial⟩, (hm.pick [1, 2, 3, 4] rfl (by decide)).pickφ [0] rfl⟩
            · replace H := ite_no h14009 H
              refine wpc_no ht rfl (decide_eq_false h14009) ?_
              refine wp_exit ?_
              refine then_exit ?_
              refine then_exit ?_
              refine blk_hit ?_
              refine then_normal ?_
              refine wp_seq ?_
              refine wpr ?_
              refine wpl rfl rfl ht (ev_move ht rfl rfl) ?_
              intro a ht
              refine wpl rfl rfl ht (ev_assign ht rfl rfl) ?_
              intro a ht
              refine wpl rfl rfl ht (ev_assign ht rfl rfl) ?_
              intro a ht
              refine wpList_nil ?_
              refine then_normal ?_
              refine wp_ret ?_
              have hres := ht.res (P := Try.prog) (w := w) (rs := [.tmp 4, .tmp 5]) (vs := [.slice As0_1 ms0_3 cs0_2, .int .i64 0]) (.tmp rfl (.tmp rfl .nil))
              obtain rfl := Option.some.inj H
              exact leave ht rfl hres ⟨As0_1, cs0_2, ms0_3, vss0_5, rfl, ((hm.pick [2] rfl (by decide)).pickφ [0] rfl).post fun _ h => h⟩
        · refine wph_step rfl ?_
          replace hm : Ms _ _ _ _ (AllInts ([]) ([] : List (List Int)) :: _) w := hm.addφ (allInts_nil)
          refine wpl_buildSlice (vs := []) rfl rfl ht hm rfl und_49 zo_25 sz1_25 (by decide) rfl rfl rfl ?_
          intro A10506 a ht w hm
          have hS : Ms X (fps []) w0 [.blk b1 28 (Col.cells x)] [IntsAt none 0 0 ([] : List Int)] w := (hm.pick [3] rfl (by decide)).pickφ [1] rfl
          refine wpList_nil (qn ⟨hS, ?_⟩)
          refine wph_one (i := 9) (by kernel_rfl) (wph_step rfl ?_)
          obtain ⟨t9506, et9506, H⟩ := bind_get H
          have hcall := spec_l02Full.calls k _ _ A2507 c2508 m2509 A8506 0 0 t2506 0 (w64 ((shlI .i64 1 (wu64 x.p)) - 1)) 0 ([] : List Int) 201 _ ((fun (hq : Ms _ _ _ ([.vec A8506 0 2 1 0 (ints ([] : List Int))] ++ [.vec A10506 0 25 1 0 ([]), .vec A2507 c2508 2 1 m2509 (ints t2506), .blk b1 28 (Col.cells x)]) _ _) => hq.lend (φp := [IntsAt A2507 c2508 m2509 t2506]) (allRO_cons (hq.lendVec 1 rfl) (allRO_nil))) (hm.pick (own' := [.vec A8506 0 2 1 0 (ints ([] : List Int))] ++ [.vec A10506 0 25 1 0 ([]), .vec A2507 c2508 2 1 m2509 (ints t2506), .blk b1 28 (Col.cells x)]) [2, 0, 1, 3] rfl (by decide))) et9506
          refine wpl_call _ rfl rfl ht rfl rfl rfl rfl can_92 hcall ?_
          clear hcall
          rintro _ w ⟨A9507, c9508, m9509, rfl, hpost⟩ a ht
          replace hm := (hm.pick (own' := [.vec A8506 0 2 1 0 (ints ([] : List Int))] ++ [.vec A10506 0 25 1 0 ([]), .vec A2507 c2508 2 1 m2509 (ints t2506), .blk b1 28 (Col.cells x)]) [2, 0, 1, 3] rfl (by decide)).backL hpost
          clear hpost
          have hS : Ms X (fps []) w0 [.blk b1 28 (Col.cells x)] [IntsAt none 0 0 ([] : List Int)] w := (hm.pick [3] rfl (by decide)).pickφ [1] rfl
          refine wpList_nil (qn ⟨hS, ?_⟩)
          refine wph_take (i := 11) rfl (by kernel_rfl) (by kernel_rfl) (by kernel_rfl) (fun _ _ _ h => h) rfl ht hS (wanted_plain rfl) (fun w hm => ev_assign ht rfl rfl) ?_
          intro a ht
          refine wph_take (i := 12) rfl (by kernel_rfl) (by kernel_rfl) (by kernel_rfl) (fun _ _ _ h => h) rfl ht hS (wanted_plain rfl) (fun w hm => ev_assign ht rfl rfl) ?_
          intro a ht
          refine wph_done (by kernel_rfl) ?_
          replace hm := hm.pick (own' := [.vec A2507 c2508 2 1 m2509 (ints t2506), .vec A9507 c9508 2 1 m9509 (ints t9506), .vec A10506 0 25 1 0 ([]), .blk b1 28 (Col.cells x)]) [2, 0, 1, 3] rfl (by decide)
          refine then_normal ?_
          refine wp_seq ?_
          refine wp_seq ?_
          refine wpr ?_
          refine wpl rfl rfl ht (ev_move ht rfl rfl) ?_
          intro a ht
          refine wpl rfl rfl ht (ev_len_of ht rfl rfl und_25 (hm.vec_row 1 rfl)) ?_
          intro a ht
          refine wpl rfl rfl ht (ev_cmp ht rfl rfl rfl rfl) ?_
          intro a ht
          refine wpList_nil ?_
          refine then_normal ?_
          by_cases h14006 : (t9506.length : Int) > 200
          · replace H := ite_yes h14006 H
            refine wpc_yes ht rfl (decide_eq_true h14006) ?_
            refine wp_seq ?_
            refine wpr ?_
            refine wpl rfl rfl ht (ev_assign ht rfl rfl) ?_
            intro a ht
            refine wpl rfl rfl ht (ev_assign ht rfl rfl) ?_
            intro a ht
            refine wpList_nil ?_
            refine then_normal ?_
            refine wp_ret ?_
            refine then_ret ?_
            have hres := ht.res (P := Try.prog) (w := w) (rs := [.tmp 4, .tmp 5]) (vs := [.slice none 0 0, .int .i64 3]) (.tmp rfl (.tmp rfl .nil))
            replace hm : Ms _ _ _ _ (AllInts ([]) ([] : List (List Int)) :: _) w := hm.addφ allInts_nil
            replace hm : Ms _ _ _ (.vec none 0 25 1 0 ([]) :: _) _ w := hm.nilVec none 25 1
            obtain rfl := Option.some.inj H
            exact leave ht rfl hres ⟨none, 0, 0, [], rfl, ((hm.pick [0] rfl (by decide)).pickφ [0] rfl).post fun _ h => h⟩
          · replace H := ite_no h14006 H
            refine wpc_no ht rfl (decide_eq_false h14006) ?_
            refine wp_skip ?_
            refine then_normal ?_
            refine wp_seq ?_
            refine wp_seq ?_
            refine wpr ?_
            refine wpl rfl rfl ht (ev_assign ht rfl rfl) ?_
            intro a ht
            refine wpList_nil ?_
            refine then_normal ?_
            refine wp_block ?_
            refine wpLoop (fun q a w => ∃ (ls0_4 : List (List Int)) (xs0_6 : Int) (As0_1 : Option Addr) (cs0_2 : Nat) (ms0_3 : Nat) (vss0_5 : List Value), spec_FullCliques.l0 q t9506 ls0_4 xs0_6 = some r ∧ q ≤ k ∧ Tm 75 [(4, .slice none 0 0), (5, .int .i64 0), (7, .slice A9507 m9509 c9508), (8, .slice As0_1 ms0_3 cs0_2), (9, .int .i64 xs0_6)] a ∧ Ms X (fps []) w0 [.vec A2507 c2508 2 1 m2509 (ints t2506), .vec A9507 c9508 2 1 m9509 (ints t9506), .vec As0_1 cs0_2 25 1 ms0_3 vss0_5, .blk b1 28 (Col.cells x)] [AllInts vss0_5 ls0_4] w) (k0 := k) ⟨([] : List (List Int)), 0, A10506, 0, 0, ([]), H, Nat.le_refl _, ht.sub ⟨rfl, rfl, rfl, rfl, rfl, trivial⟩, (hm.pick [0, 1, 2, 3] rfl (by decide)).pickφ [0] rfl⟩ ?_
            clear H ht hm
            intro q14008 a w hJ
            obtain ⟨ls0_4, xs0_6, As0_1, cs0_2, ms0_3, vss0_5, H, hqq14008, ht, hm⟩ := hJ
            cases q14008 with
            | zero => cases H
            | succ q14008 =>
            rw [spec_FullCliques.l0] at H
            refine wp_seq ?_
            refine wp_seq ?_
            refine wpr ?_
            refine wpl rfl rfl ht (ev_move ht rfl rfl) ?_
            intro a ht
            refine wpl rfl rfl ht (ev_move ht rfl rfl) ?_
            intro a ht
            refine wpl rfl rfl ht (ev_len_of ht rfl rfl und_25 (hm.vec_row 1 rfl)) ?_
            intro a ht
            refine wpl rfl rfl ht (ev_cmp ht rfl rfl rfl rfl) ?_
            intro a ht
            refine wpList_nil ?_
            refine then_normal ?_
            by_cases h14009 : xs0_6 < (t9506.length : Int)
            · replace H := ite_yes h14009 H
              refine wpc_yes ht rfl (decide_eq_true h14009) ?_
              refine wp_skip ?_
              refine then_normal ?_
              refine wp_seq ?_
              refine wp_block ?_
              refine wp_seq ?_
              refine wpr ?_
              refine wpl rfl rfl ht (ev_move ht rfl rfl) ?_
              intro a ht
              refine wpl rfl rfl ht (ev_move ht rfl rfl) ?_
              intro a ht
              obtain ⟨t14010, et14010, H⟩ := bind_get H
              refine wpl rfl rfl ht (ev_index_ints ht rfl rfl rfl so_25 (hm.vec_row 1 rfl) et14010) ?_
              intro a ht
              refine wpl rfl rfl ht (ev_load ht rfl rfl sc_2 (RowAt.cell (hm.vec_row 1 rfl) (ints_get et14010) rfl)) ?_
              intro a ht
              obtain ⟨t14011, et14011, H⟩ := bind_get H
              have hcall := spec_l01Points.calls q14008 _ _ t14010 _ ((fun (hq : Ms _ _ _ ([] ++ [.vec A2507 c2508 2 1 m2509 (ints t2506), .vec A9507 c9508 2 1 m9509 (ints t9506), .vec As0_1 cs0_2 25 1 ms0_3 vss0_5, .blk b1 28 (Col.cells x)]) _ _) => hq.lend (φp := []) (allRO_nil)) (hm.pick (own' := [] ++ [.vec A2507 c2508 2 1 m2509 (ints t2506), .vec A9507 c9508 2 1 m9509 (ints t9506), .vec As0_1 cs0_2 25 1 ms0_3 vss0_5, .blk b1 28 (Col.cells x)]) [0, 1, 2, 3] rfl (by decide))) et14011
              refine wpl_call _ rfl rfl ht rfl rfl rfl rfl can_93 hcall ?_
              clear hcall
              rintro _ w ⟨A14012, c14013, m14014, rfl, hpost⟩ a ht
              replace hm := (hm.pick (own' := [] ++ [.vec A2507 c2508 2 1 m2509 (ints t2506), .vec A9507 c9508 2 1 m9509 (ints t9506), .vec As0_1 cs0_2 25 1 ms0_3 vss0_5, .blk b1 28 (Col.cells x)]) [0, 1, 2, 3] rfl (by decide)).backL hpost
              clear hpost
              refine wpl rfl rfl ht (ev_move ht rfl rfl) ?_
              intro a ht
              refine wpl rfl rfl ht (ev_len_rows ht rfl rfl und_49 (hm.rowsOf 3 0 rfl rfl)) ?_
              intro a ht
              refine wpl rfl rfl ht (ev_assign ht rfl rfl) ?_
              intro a ht
              refine wpl rfl rfl ht (ev_assign ht rfl rfl) ?_
              intro a ht
              refine wpList_nil ?_
              refine then_normal ?_
              refine wp_seq ?_
              refine wpr ?_
              refine wpl rfl rfl ht (ev_move ht rfl rfl) ?_
              intro a ht
              refine wpl rfl rfl ht (ev_move ht rfl rfl) ?_
              intro a ht
              replace hm : Ms _ _ _ _ (IntsAt A14012 c14013 m14014 t14011 :: _) w := hm.shutVec 0 rfl
              replace hm : Ms _ _ _ _ (AllInts ([.slice A14012 m14014 c14013]) ([t14011]) :: _) w := hm.addφ (allInts_cons (hm.ro 0 rfl) (allInts_nil))
              refine wpl_buildSlice (vs := [.slice A14012 m14014 c14013]) rfl rfl ht hm rfl und_49 zo_25 sz1_25 (by decide) rfl rfl rfl ?_
              intro A14015 a ht w hm
              obtain ⟨l14019, el14019, H⟩ := bind_get H
              replace hm : Ms _ _ _ _ (AllInts (vss0_5 ++ ([.slice A14012 m14014 c14013])) l14019 :: _) w := hm.addφ (allInts_append el14019 (hm.ro 2 rfl) (hm.ro 0 rfl))
              refine wpl_concat_rows (r := l14019) 3 0 3 1 rfl rfl ht hm rfl ap_49 rfl rfl rfl rfl rfl rfl el14019 ?_
              intro A14016 c14017 m14018 a ht w hm
              refine wpl rfl rfl ht (ev_assign ht rfl rfl) ?_
              intro a ht
              refine wpList_nil ?_
              refine then_normal ?_
              refine wp_seq ?_
              refine wp_block ?_
              refine wpLoop (fun q a w => ∃ (ls1_1 : List (List Int)) (xs1_3 : Int) (vss1_2 : List Value), spec_FullCliques.l1 q t9506 xs0_6 t14011 ls1_1 xs1_3 = some r ∧ q ≤ q14008 ∧ Tm 75 [(4, .slice none 0 0), (5, .int .i64 0), (7, .slice A9507 m9509 c9508), (8, .slice A14016 m14018 c14017), (9, .int .i64 xs0_6), (10, .slice A14012 m14014 c14013), (32, .int .i64 xs0_6), (33, .slice A9507 m9509 c9508), (34, .int .i64 (t9506.length : Int)), (35, .bool (decide (xs0_6 < (t9506.length : Int)))), (38, .slice A9507 m9509 c9508), (39, .int .i64 xs0_6), (40, .pointer (some (eaddr A9507 xs0_6.toNat 1))), (41, .int .i64 t14010), (42, .slice A14012 m14014 c14013), (44, .int .i64 (ls0_4.length : Int)), (46, .slice A14012 m14014 c14013), (47, .slice A14015 1 1), (48, .slice A14016 m14018 c14017), (11, .int .i64 xs1_3)] a ∧ Ms X (fps []) w0 [.vec A14015 1 25 1 1 ([.slice A14012 m14014 c14013]), .vec A2507 c2508 2 1 m2509 (ints t2506), .vec A9507 c9508 2 1 m9509 (ints t9506), .vec A14016 c14017 25 1 m14018 vss1_2, .blk b1 28 (Col.cells x)] [IntsAt A14012 c14013 m14014 t14011, AllInts ([.slice A14012 m14014 c14013]) ([t14011]), AllInts vss1_2 ls1_1] w) (k0 := q14008) ⟨l14019, (ls0_4.length : Int), (vss0_5 ++ ([.slice A14012 m14014 c14013])), H, Nat.le_refl _, ht.sub ⟨rfl, rfl, rfl, rfl, rfl, rfl, rfl, rfl, rfl, rfl, rfl, rfl, rfl, rfl, rfl, rfl, rfl, rfl, rfl, rfl, trivial⟩, (hm.pick [0, 1, 2, 3, 4] rfl (by decide)).pickφ [2, 1, 0] rfl⟩ ?_
              clear H ht hm
              intro q14020 a w hJ
              obtain ⟨ls1_1, xs1_3, vss1_2, H, hqq14020, ht, hm⟩ := hJ
              cases q14020 with
              | zero => cases H
              | succ q14020 =>
              rw [spec_FullCliques.l1] at H
              refine wp_seq ?_
              refine wp_seq ?_
              refine wpr ?_
              refine wpl rfl rfl ht (ev_move ht rfl rfl) ?_
              intro a ht
              refine wpl rfl rfl ht (ev_cmp ht rfl rfl rfl rfl) ?_
              intro a ht
              refine wpl rfl rfl ht (ev_move ht rfl rfl) ?_
              intro a ht
              by_cases h14021 : xs1_3 > 0
              · replace H := ite_yes h14021 H
                refine wpl_yes rfl ht rfl ((decide_eq_true h14021)) ?_
                refine wpl rfl rfl ht (ev_move ht rfl rfl) ?_
                intro a ht
                refine wpl_yes rfl ht rfl ((decide_eq_true h14021)) ?_
                refine wpl rfl rfl ht (ev_move ht rfl rfl) ?_
                intro a ht
                refine wpl_yes rfl ht rfl ((decide_eq_true h14021)) ?_
                refine wpl rfl rfl ht (ev_move ht rfl rfl) ?_
                intro a ht
                refine wpl_yes rfl ht rfl ((decide_eq_true h14021)) ?_
                refine wpl rfl rfl ht (ev_arith ht rfl rfl rfl rfl) ?_
                intro a ht
                refine wpl_yes rfl ht rfl ((decide_eq_true h14021)) ?_
                obtain ⟨l14022, el14022, H⟩ := bind_get H
                refine wpl rfl rfl ht (ev_index_rows ht rfl rfl rfl so_49 (hm.rowsOf 3 2 rfl rfl) el14022) ?_
                intro a ht
                refine wpl_yes rfl ht rfl ((decide_eq_true h14021)) ?_
                obtain ⟨A14023, c14024, m14025, hv14026, hI⟩ := rowsAt_get (hm.rowsOf 3 2 rfl rfl) el14022
                refine wpl rfl rfl ht (ev_load ht rfl rfl sc_25 (RowsAt.cell (hm.rowsOf 3 2 rfl rfl) hv14026)) ?_
                intro a ht
                replace hm : Ms _ _ _ _ (IntsAt A14023 c14024 m14025 l14022 :: _) w := hm.addφ ((hm.ro 2 rfl).mono fun w h => allInts_at h hv14026 el14022)
                clear hI
                refine wpl_yes rfl ht rfl ((decide_eq_true h14021)) ?_
                obtain ⟨t14027, et14027, H⟩ := bind_get H
                have hcall := spec_l02Before.calls q14020 _ _ A14012 c14013 m14014 A14023 c14024 m14025 t14011 l14022 _ ((fun (hq : Ms _ _ _ ([] ++ [.vec A14015 1 25 1 1 ([.slice A14012 m14014 c14013]), .vec A2507 c2508 2 1 m2509 (ints t2506), .vec A9507 c9508 2 1 m9509 (ints t9506), .vec A14016 c14017 25 1 m14018 vss1_2, .blk b1 28 (Col.cells x)]) _ _) => hq.lend (φp := [IntsAt A14012 c14013 m14014 t14011, IntsAt A14023 c14024 m14025 l14022]) (allRO_cons (hq.lendFact 1 rfl) (allRO_cons (hq.lendFact 0 rfl) (allRO_nil)))) (hm.pick (own' := [] ++ [.vec A14015 1 25 1 1 ([.slice A14012 m14014 c14013]), .vec A2507 c2508 2 1 m2509 (ints t2506), .vec A9507 c9508 2 1 m9509 (ints t9506), .vec A14016 c14017 25 1 m14018 vss1_2, .blk b1 28 (Col.cells x)]) [0, 1, 2, 3, 4] rfl (by decide))) et14027
                refine wpl_call _ rfl rfl ht rfl rfl rfl rfl can_94 hcall ?_
                clear hcall
                rintro _ w ⟨rfl, hpost⟩ a ht
                replace hm := (hm.pick (own' := [] ++ [.vec A14015 1 25 1 1 ([.slice A14012 m14014 c14013]), .vec A2507 c2508 2 1 m2509 (ints t2506), .vec A9507 c9508 2 1 m9509 (ints t9506), .vec A14016 c14017 25 1 m14018 vss1_2, .blk b1 28 (Col.cells x)]) [0, 1, 2, 3, 4] rfl (by decide)).backL hpost
                clear hpost
                refine wpl rfl rfl ht (ev_pick_yes ht rfl rfl (decide_eq_true h14021) rfl) ?_
                intro a ht
                refine wpList_nil ?_
                refine then_normal ?_
                by_cases h14028 : t14027 = true
                · replace H := ite_yes h14028 H
                  refine wpc_yes ht rfl h14028 ?_
                  refine wp_skip ?_
                  refine then_normal ?_
                  refine wp_block ?_
                  refine wp_seq ?_
                  refine wpr ?_
                  refine wpl rfl rfl ht (ev_move ht rfl rfl) ?_
                  intro a ht
                  refine wpl rfl rfl ht (ev_move ht rfl rfl) ?_
                  intro a ht
                  refine wpl rfl rfl ht (ev_move ht rfl rfl) ?_
                  intro a ht
                  refine wpl rfl rfl ht (ev_move ht rfl rfl) ?_
                  intro a ht
                  refine wpl rfl rfl ht (ev_arith ht rfl rfl rfl rfl) ?_
                  intro a ht
                  obtain ⟨l14029, el14029, H⟩ := bind_get H
                  refine wpl rfl rfl ht (ev_index_rows ht rfl rfl rfl so_49 (hm.rowsOf 3 3 rfl rfl) el14029) ?_
                  intro a ht
                  obtain ⟨A14030, c14031, m14032, hv14033, hI⟩ := rowsAt_get (hm.rowsOf 3 3 rfl rfl) el14029
                  refine wpl rfl rfl ht (ev_load ht rfl rfl sc_25 (RowsAt.cell (hm.rowsOf 3 3 rfl rfl) hv14033)) ?_
                  intro a ht
                  replace hm : Ms _ _ _ _ (IntsAt A14030 c14031 m14032 l14029 :: _) w := hm.addφ ((hm.ro 3 rfl).mono fun w h => allInts_at h hv14033 el14029)
                  clear hI
                  obtain ⟨l14034, el14034, H⟩ := bind_get H
                  refine wpl rfl rfl ht (ev_index_rows ht rfl rfl rfl so_49 (hm.rowsOf 3 4 rfl rfl) el14034) ?_
                  intro a ht
                  replace hm : Ms _ _ _ _ (AllInts (vss1_2.set xs1_3.toNat (.slice A14030 m14032 c14031)) (ls1_1.set xs1_3.toNat l14029) :: _) w := hm.addφ (allInts_set xs1_3.toNat (hm.ro 4 rfl) (hm.ro 0 rfl))
                  refine wpl_store_row 3 rfl rfl ht hm rfl rfl rfl sz1_25 rfl (hm.rowsOf 3 5 rfl rfl) el14034 ?_
                  intro a ht w hm
                  refine wpList_nil ?_
                  refine then_normal ?_
                  refine wpr ?_
                  refine wpl rfl rfl ht (ev_move ht rfl rfl) ?_
                  intro a ht
                  refine wpl rfl rfl ht (ev_arith ht rfl rfl rfl rfl) ?_
                  intro a ht
                  refine wpl rfl rfl ht (ev_assign ht rfl rfl) ?_
                  intro a ht
                  refine wpList_nil ?_
                  refine blk_normal ?_
                  exact then_normal ⟨q14020, by omega, (ls1_1.set xs1_3.toNat l14029), (w64 (xs1_3 - 1)), (vss1_2.set xs1_3.toNat (.slice A14030 m14032 c14031)), H, by omega, ht.sub ⟨rfl, rfl, rfl, rfl, rfl, rfl, rfl, rfl, rfl, rfl, rfl, rfl, rfl, rfl, rfl, rfl, rfl, rfl, rfl, rfl, trivial⟩, (hm.pick [0, 1, 2, 3, 4] rfl (by decide)).pickφ [3, 4, 0] rfl⟩
                · replace H := ite_no h14028 H
                  refine wpc_no ht rfl (Bool.eq_false_iff.mpr h14028) ?_
                  refine wp_exit ?_
                  refine then_exit ?_
                  refine then_exit ?_
                  refine blk_hit ?_
                  refine then_normal ?_
                  refine wpr ?_
                  refine wpl rfl rfl ht (ev_move ht rfl rfl) ?_
                  intro a ht
                  refine wpl rfl rfl ht (ev_move ht rfl rfl) ?_
                  intro a ht
                  refine wpl rfl rfl ht (ev_move ht rfl rfl) ?_
                  intro a ht
                  obtain ⟨l14036, el14036, H⟩ := bind_get H
                  refine wpl rfl rfl ht (ev_index_rows ht rfl rfl rfl so_49 (hm.rowsOf 3 3 rfl rfl) el14036) ?_
                  intro a ht
                  replace hm : Ms _ _ _ _ (AllInts (vss1_2.set xs1_3.toNat (.slice A14012 m14014 c14013)) (ls1_1.set xs1_3.toNat t14011) :: _) w := hm.addφ (allInts_set xs1_3.toNat (hm.ro 3 rfl) (hm.ro 1 rfl))
                  refine wpl_store_row 3 rfl rfl ht hm rfl rfl rfl sz1_25 rfl (hm.rowsOf 3 4 rfl rfl) el14036 ?_
                  intro a ht w hm
                  refine wpList_nil ?_
                  refine blk_normal ?_
                  refine then_normal ?_
                  refine wpr ?_
                  refine wpl rfl rfl ht (ev_move ht rfl rfl) ?_
                  intro a ht
                  refine wpl rfl rfl ht (ev_arith ht rfl rfl rfl rfl) ?_
                  intro a ht
                  refine wpl rfl rfl ht (ev_assign ht rfl rfl) ?_
                  intro a ht
                  refine wpList_nil ?_
                  exact then_normal ⟨q14020, by omega, (ls1_1.set xs1_3.toNat t14011), (w64 (xs0_6 + 1)), A14016, c14017, m14018, (vss1_2.set xs1_3.toNat (.slice A14012 m14014 c14013)), H, by omega, ht.sub ⟨rfl, rfl, rfl, rfl, rfl, trivial⟩, (hm.pick [1, 2, 3, 4] rfl (by decide)).pickφ [0] rfl⟩
              · replace H := ite_no h14021 H
                refine wpl_no rfl rfl ht rfl (by rw [(decide_eq_false h14021)]; decide) ?_
                intro a ht
                refine wpl_no rfl rfl ht rfl (by rw [(decide_eq_false h14021)]; decide) ?_
                intro a ht
                refine wpl_no rfl rfl ht rfl (by rw [(decide_eq_false h14021)]; decide) ?_
                intro a ht
                refine wpl_no rfl rfl ht rfl (by rw [(decide_eq_false h14021)]; decide) ?_
                intro a ht
                refine wpl_no rfl rfl ht rfl (by rw [(decide_eq_false h14021)]; decide) ?_
                intro a ht
                refine wpl_no rfl rfl ht rfl (by rw [(decide_eq_false h14021)]; decide) ?_
                intro a ht
                refine wpl_no rfl rfl ht rfl (by rw [(decide_eq_false h14021)]; decide) ?_
                intro a ht
                refine wpl rfl rfl ht (ev_pick_no ht rfl rfl (decide_eq_false h14021) rfl) ?_
                intro a ht
                refine wpList_nil ?_
                refine then_normal ?_
                refine wpc_no ht rfl rfl ?_
                refine wp_exit ?_
                refine then_exit ?_
                refine then_exit ?_
                refine blk_hit ?_
                refine then_normal ?_
                refine wpr ?_
                refine wpl rfl rfl ht (ev_move ht rfl rfl) ?_
                intro a ht
                refine wpl rfl rfl ht (ev_move ht rfl rfl) ?_
                intro a ht
                refine wpl rfl rfl ht (ev_move ht rfl rfl) ?_
                intro a ht
                obtain ⟨l14038, el14038, H⟩ := bind_get H
                refine wpl rfl rfl ht (ev_index_rows ht rfl rfl rfl so_49 (hm.rowsOf 3 2 rfl rfl) el14038) ?_
                intro a ht
                replace hm : Ms _ _ _ _ (AllInts (vss1_2.set xs1_3.toNat (.slice A14012 m14014 c14013)) (ls1_1.set xs1_3.toNat t14011) :: _) w := hm.addφ (allInts_set xs1_3.toNat (hm.ro 2 rfl) (hm.ro 0 rfl))
                refine wpl_store_row 3 rfl rfl ht hm rfl rfl rfl sz1_25 rfl (hm.rowsOf 3 3 rfl rfl) el14038 ?_
                intro a ht w hm
                refine wpList_nil ?_
                refine blk_normal ?_
                refine then_normal ?_
                refine wpr ?_
                refine wpl rfl rfl ht (ev_move ht rfl rfl) ?_
                intro a ht
                refine wpl rfl rfl ht (ev_arith ht rfl rfl rfl rfl) ?_
                intro a ht
                refine wpl rfl rfl ht (ev_assign ht rfl rfl) ?_
                intro a ht
                refine wpList_nil ?_
                exact then_normal ⟨q14020, by omega, (ls1_1.set xs1_3.toNat t14011), (w64 (xs0_6 + 1)), A14016, c14017, m14018, (vss1_2.set xs1_3.toNat (.slice A14012 m14014 c14013)), H, by omega, ht.sub ⟨rfl, rfl, rfl, rfl, rfl, trivial⟩, (hm.pick [1, 2, 3, 4] rfl (by decide)).pickφ [0] rfl⟩
            · replace H := ite_no h14009 H
              refine wpc_no ht rfl (decide_eq_false h14009) ?_
              refine wp_exit ?_
              refine then_exit ?_
              refine then_exit ?_
              refine blk_hit ?_
              refine then_normal ?_
              refine wp_seq ?_
              refine wpr ?_
              refine wpl rfl rfl ht (ev_move ht rfl rfl) ?_
              intro a ht
              refine wpl rfl rfl ht (ev_assign ht rfl rfl) ?_
              intro a ht
              refine wpl rfl rfl ht (ev_assign ht rfl rfl) ?_
              intro a ht
              refine wpList_nil ?_
              refine then_normal ?_
              refine wp_ret ?_
              have hres := ht.res (P := Try.prog) (w := w) (rs := [.tmp 4, .tmp 5]) (vs := [.slice As0_1 ms0_3 cs0_2, .int .i64 0]) (.tmp rfl (.tmp rfl .nil))
              obtain rfl := Option.some.inj H
              exact leave ht rfl hres ⟨As0_1, cs0_2, ms0_3, vss0_5, rfl, ((hm.pick [2] rfl (by decide)).pickφ [0] rfl).post fun _ h => h⟩
      · refine wph_step rfl ?_
        replace hm : Ms _ _ _ _ (AllInts ([]) ([] : List (List Int)) :: _) w := hm.addφ (allInts_nil)
        refine wpl_buildSlice (vs := []) rfl rfl ht hm rfl und_49 zo_25 sz1_25 (by decide) rfl rfl rfl ?_
        intro A10506 a ht w hm
        have hS : Ms X (fps []) w0 [.blk b1 28 (Col.cells x)] [IntsAt none 0 0 ([] : List Int)] w := (hm.pick [2] rfl (by decide)).pickφ [1] rfl
        refine wpList_nil (qn ⟨hS, ?_⟩)
        refine wph_one (i := 2) (by kernel_rfl) (wph_step rfl ?_)
        obtain ⟨t2506, et2506, H⟩ := bind_get H
        have hcall := spec_l02Rows.calls k _ _ x c _ ((fun (hq : Ms _ _ _ ([] ++ [.vec A10506 0 25 1 0 ([]), .vec A8506 0 2 1 0 (ints ([] : List Int)), .blk b1 28 (Col.cells x)]) _ _) => hq.lend (φp := []) (allRO_nil)) (hm.pick (own' := [] ++ [.vec A10506 0 25 1 0 ([]), .vec A8506 0 2 1 0 (ints ([] : List Int)), .blk b1 28 (Col.cells x)]) [0, 1, 2] rfl (by decide))) et2506
        refine wpl_call _ rfl rfl ht rfl rfl rfl rfl can_59 hcall ?_
        clear hcall
        rintro _ w ⟨A2507, c2508, m2509, rfl, hpost⟩ a ht
        replace hm := (hm.pick (own' := [] ++ [.vec A10506 0 25 1 0 ([]), .vec A8506 0 2 1 0 (ints ([] : List Int)), .blk b1 28 (Col.cells x)]) [0, 1, 2] rfl (by decide)).backL hpost
        clear hpost
        have hS : Ms X (fps []) w0 [.blk b1 28 (Col.cells x)] [IntsAt none 0 0 ([] : List Int)] w := (hm.pick [3] rfl (by decide)).pickφ [1] rfl
        refine wpList_nil (qn ⟨hS, ?_⟩)
        refine wph_one (i := 9) (by kernel_rfl) (wph_step rfl ?_)
        obtain ⟨t9506, et9506, H⟩ := bind_get H
        have hcall := spec_l02Full.calls k _ _ A2507 c2508 m2509 A8506 0 0 t2506 0 (w64 ((shlI .i64 1 (wu64 x.p)) - 1)) 0 ([] : List Int) 201 _ ((fun (hq : Ms _ _ _ ([.vec A8506 0 2 1 0 (ints ([] : List Int))] ++ [.vec A2507 c2508 2 1 m2509 (ints t2506), .vec A10506 0 25 1 0 ([]), .blk b1 28 (Col.cells x)]) _ _) => hq.lend (φp := [IntsAt A2507 c2508 m2509 t2506]) (allRO_cons (hq.lendVec 0 rfl) (allRO_nil))) (hm.pick (own' := [.vec A8506 0 2 1 0 (ints ([] : List Int))] ++ [.vec A2507 c2508 2 1 m2509 (ints t2506), .vec A10506 0 25 1 0 ([]), .blk b1 28 (Col.cells x)]) [2, 0, 1, 3] rfl (by decide))) et9506
        refine wpl_call _ rfl rfl ht rfl rfl rfl rfl can_92 hcall ?_
        clear hcall
        rintro _ w ⟨A9507, c9508, m9509, rfl, hpost⟩ a ht
        replace hm := (hm.pick (own' := [.vec A8506 0 2 1 0 (ints ([] : List Int))] ++ [.vec A2507 c2508 2 1 m2509 (ints t2506), .vec A10506 0 25 1 0 ([]), .blk b1 28 (Col.cells x)]) [2, 0, 1, 3] rfl (by decide)).backL hpost
        clear hpost
        have hS : Ms X (fps []) w0 [.blk b1 28 (Col.cells x)] [IntsAt none 0 0 ([] : List Int)] w := (hm.pick [3] rfl (by decide)).pickφ [1] rfl
        refine wpList_nil (qn ⟨hS, ?_⟩)
        refine wph_take (i := 11) rfl (by kernel_rfl) (by kernel_rfl) (by kernel_rfl) (fun _ _ _ h => h) rfl ht hS (wanted_plain rfl) (fun w hm => ev_assign ht rfl rfl) ?_
        intro a ht
        refine wph_take (i := 12) rfl (by kernel_rfl) (by kernel_rfl) (by kernel_rfl) (fun _ _ _ h => h) rfl ht hS (wanted_plain rfl) (fun w hm => ev_assign ht rfl rfl) ?_
        intro a ht
        refine wph_done (by kernel_rfl) ?_
        replace hm := hm.pick (own' := [.vec A2507 c2508 2 1 m2509 (ints t2506), .vec A9507 c9508 2 1 m9509 (ints t9506), .vec A10506 0 25 1 0 ([]), .blk b1 28 (Col.cells x)]) [1, 0, 2, 3] rfl (by decide)
        refine then_normal ?_
        refine wp_seq ?_
        refine wp_seq ?_
        refine wpr ?_
        refine wpl rfl rfl ht (ev_move ht rfl rfl) ?_
        intro a ht
        refine wpl rfl rfl ht (ev_len_of ht rfl rfl und_25 (hm.vec_row 1 rfl)) ?_
        intro a ht
        refine wpl rfl rfl ht (ev_cmp ht rfl rfl rfl rfl) ?_
        intro a ht
        refine wpList_nil ?_
        refine then_normal ?_
        by_cases h14006 : (t9506.length : Int) > 200
        · replace H := ite_yes h14006 H
          refine wpc_yes ht rfl (decide_eq_true h14006) ?_
          refine wp_seq ?_
          refine wpr ?_
          refine wpl rfl rfl ht (ev_assign ht rfl rfl) ?_
          intro a ht
          refine wpl rfl rfl ht (ev_assign ht rfl rfl) ?_
          intro a ht
          refine wpList_nil ?_
          refine then_normal ?_
          refine wp_ret ?_
          refine then_ret ?_
          have hres := ht.res (P := Try.prog) (w := w) (rs := [.tmp 4, .tmp 5]) (vs := [.slice none 0 0, .int .i64 3]) (.tmp rfl (.tmp rfl .nil))
          replace hm : Ms _ _ _ _ (AllInts ([]) ([] : List (List Int)) :: _) w := hm.addφ allInts_nil
          replace hm : Ms _ _ _ (.vec none 0 25 1 0 ([]) :: _) _ w := hm.nilVec none 25 1
          obtain rfl := Option.some.inj H
          exact leave ht rfl hres ⟨none, 0, 0, [], rfl, ((hm.pick [0] rfl (by decide)).pickφ [0] rfl).post fun _ h => h⟩
        · replace H := ite_no h14006 H
          refine wpc_no ht rfl (decide_eq_false h14006) ?_
          refine wp_skip ?_
          refine then_normal ?_
          refine wp_seq ?_
          refine wp_seq ?_
          refine wpr ?_
          refine wpl rfl rfl ht (ev_assign ht rfl rfl) ?_
          intro a ht
          refine wpList_nil ?_
          refine then_normal ?_
          refine wp_block ?_
          refine wpLoop (fun q a w => ∃ (ls0_4 : List (List Int)) (xs0_6 : Int) (As0_1 : Option Addr) (cs0_2 : Nat) (ms0_3 : Nat) (vss0_5 : List Value), spec_FullCliques.l0 q t9506 ls0_4 xs0_6 = some r ∧ q ≤ k ∧ Tm 75 [(4, .slice none 0 0), (5, .int .i64 0), (7, .slice A9507 m9509 c9508), (8, .slice As0_1 ms0_3 cs0_2), (9, .int .i64 xs0_6)] a ∧ Ms X (fps []) w0 [.vec A2507 c2508 2 1 m2509 (ints t2506), .vec A9507 c9508 2 1 m9509 (ints t9506), .vec As0_1 cs0_2 25 1 ms0_3 vss0_5, .blk b1 28 (Col.cells x)] [AllInts vss0_5 ls0_4] w) (k0 := k) ⟨([] : List (List Int)), 0, A10506, 0, 0, ([]), H, Nat.le_refl _, ht.sub ⟨rfl, rfl, rfl, rfl, rfl, trivial⟩, (hm.pick [0, 1, 2, 3] rfl (by decide)).pickφ [0] rfl⟩ ?_
          clear H ht hm
          intro q14008 a w hJ
          obtain ⟨ls0_4, xs0_6, As0_1, cs0_2, ms0_3, vss0_5, H, hqq14008, ht, hm⟩ := hJ
          cases q14008 with
          | zero => cases H
          | succ q14008 =>
          rw [spec_FullCliques.l0] at H
          refine wp_seq ?_
          refine wp_seq ?_
          refine wpr ?_
          refine wpl rfl rfl ht (ev_move ht rfl rfl) ?_
          intro a ht
          refine wpl rfl rfl ht (ev_move ht rfl rfl) ?_
          intro a ht
          refine wpl rfl rfl ht (ev_len_of ht rfl rfl und_25 (hm.vec_row 1 rfl)) ?_
          intro a ht
          refine wpl rfl rfl ht (ev_cmp ht rfl rfl rfl rfl) ?_
          intro a ht
          refine wpList_nil ?_
          refine then_normal ?_
          by_cases h14009 : xs0_6 < (t9506.length : Int)
          · replace H := ite_yes h14009 H
            refine wpc_yes ht rfl (decide_eq_true h14009) ?_
            refine wp_skip ?_
            refine then_normal ?_
            refine wp_seq ?_
            refine wp_block ?_
            refine wp_seq ?_
            refine wpr ?_
            refine wpl rfl rfl ht (ev_move ht rfl rfl) ?_
            intro a ht
            refine wpl rfl rfl ht (ev_move ht rfl rfl) ?_
            intro a ht
            obtain ⟨t14010, et14010, H⟩ := bind_get H
            refine wpl rfl rfl ht (ev_index_ints ht rfl rfl rfl so_25 (hm.vec_row 1 rfl) et14010) ?_
            intro a ht
            refine wpl rfl rfl ht (ev_load ht rfl rfl sc_2 (RowAt.cell (hm.vec_row 1 rfl) (ints_get et14010) rfl)) ?_
            intro a ht
            obtain ⟨t14011, et14011, H⟩ := bind_get H
            have hcall := spec_l01Points.calls q14008 _ _ t14010 _ ((fun (hq : Ms _ _ _ ([] ++ [.vec A2507 c2508 2 1 m2509 (ints t2506), .vec A9507 c9508 2 1 m9509 (ints t9506), .vec As0_1 cs0_2 25 1 ms0_3 vss0_5, .blk b1 28 (Col.cells x)]) _ _) => hq.lend (φp := []) (allRO_nil)) (hm.pick (own' := [] ++ [.vec A2507 c2508 2 1 m2509 (ints t2506), .vec A9507 c9508 2 1 m9509 (ints t9506), .vec As0_1 cs0_2 25 1 ms0_3 vss0_5, .blk b1 28 (Col.cells x)]) [0, 1, 2, 3] rfl (by decide))) et14011
            refine wpl_call _ rfl rfl ht rfl rfl rfl rfl can_93 hcall ?_
            clear hcall
            rintro _ w ⟨A14012, c14013, m14014, rfl, hpost⟩ a ht
            replace hm := (hm.pick (own' := [] ++ [.vec A2507 c2508 2 1 m2509 (ints t2506), .vec A9507 c9508 2 1 m9509 (ints t9506), .vec As0_1 cs0_2 25 1 ms0_3 vss0_5, .blk b1 28 (Col.cells x)]) [0, 1, 2, 3] rfl (by decide)).backL hpost
            clear hpost
            refine wpl rfl rfl ht (ev_move ht rfl rfl) ?_
            intro a ht
            refine wpl rfl rfl ht (ev_len_rows ht rfl rfl und_49 (hm.rowsOf 3 0 rfl rfl)) ?_
            intro a ht
            refine wpl rfl rfl ht (ev_assign ht rfl rfl) ?_
            intro a ht
            refine wpl rfl rfl ht (ev_assign ht rfl rfl) ?_
            intro a ht
            refine wpList_nil ?_
            refine then_normal ?_
            refine wp_seq ?_
            refine wpr ?_
            refine wpl rfl rfl ht (ev_move ht rfl rfl) ?_
            intro a ht
            refine wpl rfl rfl ht (ev_move ht rfl rfl) ?_
            intro a ht
            replace hm : Ms _ _ _ _ (IntsAt A14012 c14013 m14014 t14011 :: _) w := hm.shutVec 0 rfl
            replace hm : Ms _ _ _ _ (AllInts ([.slice A14012 m14014 c14013]) ([t14011]) :: _) w := hm.addφ (allInts_cons (hm.ro 0 rfl) (allInts_nil))
            refine wpl_buildSlice (vs := [.slice A14012 m14014 c14013]) rfl rfl ht hm rfl und_49 zo_25 sz1_25 (by decide) rfl rfl rfl ?_
            intro A14015 a ht w hm
            obtain ⟨l14019, el14019, H⟩ := bind_get H
            replace hm : Ms _ _ _ _ (AllInts (vss0_5 ++ ([.slice A14012 m14014 c14013])) l14019 :: _) w := hm.addφ (allInts_append el14019 (hm.ro 2 rfl) (hm.ro 0 rfl))
            refine wpl_concat_rows (r := l14019) 3 0 3 1 rfl rfl ht hm rfl ap_49 rfl rfl rfl rfl rfl rfl el14019 ?_
            intro A14016 c14017 m14018 a ht w hm
            refine wpl rfl rfl ht (ev_assign ht rfl rfl) ?_
            intro a ht
            refine wpList_nil ?_
            refine then_normal ?_
            refine wp_seq ?_
            refine wp_block ?_
            refine wpLoop (fun q a w => ∃ (ls1_1 : List (List Int)) (xs1_3 : Int) (vss1_2 : List Value), spec_FullCliques.l1 q t9506 xs0_6 t14011 ls1_1 xs1_3 = some r ∧ q ≤ q14008 ∧ Tm 75 [(4, .slice none 0 0), (5, .int .i64 0), (7, .slice A9507 m9509 c9508), (8, .slice A14016 m14018 c14017), (9, .int .i64 xs0_6), (10, .slice A14012 m14014 c14013), (32, .int .i64 xs0_6), (33, .slice A9507 m9509 c9508), (34, .int .i64 (t9506.length : Int)), (35, .bool (decide (xs0_6 < (t9506.length : Int)))), (38, .slice A9507 m9509 c9508), (39, .int .i64 xs0_6), (40, .pointer (some (eaddr A9507 xs0_6.toNat 1))), (41, .int .i64 t14010), (42, .slice A14012 m14014 c14013), (44, .int .i64 (ls0_4.length : Int)), (46, .slice A14012 m14014 c14013), (47, .slice A14015 1 1), (48, .slice A14016 m14018 c14017), (11, .int .i64 xs1_3)] a ∧ Ms X (fps []) w0 [.vec A14015 1 25 1 1 ([.slice A14012 m14014 c14013]), .vec A2507 c2508 2 1 m2509 (ints t2506), .vec A9507 c9508 2 1 m9509 (ints t9506), .vec A14016 c14017 25 1 m14018 vss1_2, .blk b1 28 (Col.cells x)] [IntsAt A14012 c14013 m14014 t14011, AllInts ([.slice A14012 m14014 c14013]) ([t14011]), AllInts vss1_2 ls1_1] w) (k0 := q14008) ⟨l14019, (ls0_4.length : Int), (vss0_5 ++ ([.slice A14012 m14014 c14013])), H, Nat.le_refl _, ht.sub ⟨rfl, rfl, rfl, rfl, rfl, rfl, rfl, rfl, rfl, rfl, rfl, rfl, rfl, rfl, rfl, rfl, rfl, rfl, rfl, rfl, trivial⟩, (hm.pick [0, 1, 2, 3, 4] rfl (by decide)).pickφ [2, 1, 0] rfl⟩ ?_
            clear H ht hm
            intro q14020 a w hJ
            obtain ⟨ls1_1, xs1_3, vss1_2, H, hqq14020, ht, hm⟩ := hJ
            cases q14020 with
            | zero => cases H
            | succ q14020 =>
            rw [spec_FullCliques.l1] at H
            refine wp_seq ?_
            refine wp_seq ?_
            refine wpr ?_
            refine wpl rfl rfl ht (ev_move ht rfl rfl) ?_
            intro a ht
            refine wpl rfl rfl ht (ev_cmp ht rfl rfl rfl rfl) ?_
            intro a ht
            refine wpl rfl rfl ht (ev_move ht rfl rfl) ?_
            intro a ht
            by_cases h14021 : xs1_3 > 0
            · replace H := ite_yes h14021 H
              refine wpl_yes rfl ht rfl ((decide_eq_true h14021)) ?_
              refine wpl rfl rfl ht (ev_move ht rfl rfl) ?_
              intro a ht
              refine wpl_yes rfl ht rfl ((decide_eq_true h14021)) ?_
              refine wpl rfl rfl ht (ev_move ht rfl rfl) ?_
              intro a ht
              refine wpl_yes rfl ht rfl ((decide_eq_true h14021)) ?_
              refine wpl rfl rfl ht (ev_move ht rfl rfl) ?_
              intro a ht
              refine wpl_yes rfl ht rfl ((decide_eq_true h14021)) ?_
              refine wpl rfl rfl ht (ev_arith ht rfl rfl rfl rfl) ?_
              intro a ht
              refine wpl_yes rfl ht rfl ((decide_eq_true h14021)) ?_
              obtain ⟨l14022, el14022, H⟩ := bind_get H
              refine wpl rfl rfl ht (ev_index_rows ht rfl rfl rfl so_49 (hm.rowsOf 3 2 rfl rfl) el14022) ?_
              intro a ht
              refine wpl_yes rfl ht rfl ((decide_eq_true h14021)) ?_
              obtain ⟨A14023, c14024, m14025, hv14026, hI⟩ := rowsAt_get (hm.rowsOf 3 2 rfl rfl) el14022
              refine wpl rfl rfl ht (ev_load ht rfl rfl sc_25 (RowsAt.cell (hm.rowsOf 3 2 rfl rfl) hv14026)) ?_
              intro a ht
              replace hm : Ms _ _ _ _ (IntsAt A14023 c14024 m14025 l14022 :: _) w := hm.addφ ((hm.ro 2 rfl).mono fun w h => allInts_at h hv14026 el14022)
              clear hI
              refine wpl_yes rfl ht rfl ((decide_eq_true h14021)) ?_
              obtain ⟨t14027, et14027, H⟩ := bind_get H
              have hcall := spec_l02Before.calls q14020 _ _ A14012 c14013 m14014 A14023 c14024 m14025 t14011 l14022 _ ((fun (hq : Ms _ _ _ ([] ++ [.vec A14015 1 25 1 1 ([.slice A14012 m14014 c14013]), .vec A2507 c2508 2 1 m2509 (ints t2506), .vec A9507 c9508 2 1 m9509 (ints t9506), .vec A14016 c14017 25 1 m14018 vss1_2, .blk b1 28 (Col.cells x)]) _ _) => hq.lend (φp := [IntsAt A14012 c14013 m14014 t14011, IntsAt A14023 c14024 m14025 l14022]) (allRO_cons (hq.lendFact 1 rfl) (allRO_cons (hq.lendFact 0 rfl) (allRO_nil)))) (hm.pick (own' := [] ++ [.vec A14015 1 25 1 1 ([.slice A14012 m14014 c14013]), .vec A2507 c2508 2 1 m2509 (ints t2506), .vec A9507 c9508 2 1 m9509 (ints t9506), .vec A14016 c14017 25 1 m14018 vss1_2, .blk b1 28 (Col.cells x)]) [0, 1, 2, 3, 4] rfl (by decide))) et14027
              refine wpl_call _ rfl rfl ht rfl rfl rfl rfl can_94 hcall ?_
              clear hcall
              rintro _ w ⟨rfl, hpost⟩ a ht
              replace hm := (hm.pick (own' := [] ++ [.vec A14015 1 25 1 1 ([.slice A14012 m14014 c14013]), .vec A2507 c2508 2 1 m2509 (ints t2506), .vec A9507 c9508 2 1 m9509 (ints t9506), .vec A14016 c14017 25 1 m14018 vss1_2, .blk b1 28 (Col.cells x)]) [0, 1, 2, 3, 4] rfl (by decide)).backL hpost
              clear hpost
              refine wpl rfl rfl ht (ev_pick_yes ht rfl rfl (decide_eq_true h14021) rfl) ?_
              intro a ht
              refine wpList_nil ?_
              refine then_normal ?_
              by_cases h14028 : t14027 = true
              · replace H := ite_yes h14028 H
                refine wpc_yes ht rfl h14028 ?_
                refine wp_skip ?_
                refine then_normal ?_
                refine wp_block ?_
                refine wp_seq ?_
                refine wpr ?_
                refine wpl rfl rfl ht (ev_move ht rfl rfl) ?_
                intro a ht
                refine wpl rfl rfl ht (ev_move ht rfl rfl) ?_
                intro a ht
                refine wpl rfl rfl ht (ev_move ht rfl rfl) ?_
                intro a ht
                refine wpl rfl rfl ht (ev_move ht rfl rfl) ?_
                intro a ht
                refine wpl rfl rfl ht (ev_arith ht rfl rfl rfl rfl) ?_
                intro a ht
                obtain ⟨l14029, el14029, H⟩ := bind_get H
                refine wpl rfl rfl ht (ev_index_rows ht rfl rfl rfl so_49 (hm.rowsOf 3 3 rfl rfl) el14029) ?_
                intro a ht
                obtain ⟨A14030, c14031, m14032, hv14033, hI⟩ := rowsAt_get (hm.rowsOf 3 3 rfl rfl) el14029
                refine wpl rfl rfl ht (ev_load ht rfl rfl sc_25 (RowsAt.cell (hm.rowsOf 3 3 rfl rfl) hv14033)) ?_
                intro a ht
                replace hm : Ms _ _ _ _ (IntsAt A14030 c14031 m14032 l14029 :: _) w := hm.addφ ((hm.ro 3 rfl).mono fun w h => allInts_at h hv14033 el14029)
                clear hI
                obtain ⟨l14034, el14034, H⟩ := bind_get H
                refine wpl rfl rfl ht (ev_index_rows ht rfl rfl rfl so_49 (hm.rowsOf 3 4 rfl rfl) el14034) ?_
                intro a ht
                replace hm : Ms _ _ _ _ (AllInts (vss1_2.set xs1_3.toNat (.slice A14030 m14032 c14031)) (ls1_1.set xs1_3.toNat l14029) :: _) w := hm.addφ (allInts_set xs1_3.toNat (hm.ro 4 rfl) (hm.ro 0 rfl))
                refine wpl_store_row 3 rfl rfl ht hm rfl rfl rfl sz1_25 rfl (hm.rowsOf 3 5 rfl rfl) el14034 ?_
                intro a ht w hm
                refine wpList_nil ?_
                refine then_normal ?_
                refine wpr ?_
                refine wpl rfl rfl ht (ev_move ht rfl rfl) ?_
                intro a ht
                refine wpl rfl rfl ht (ev_arith ht rfl rfl rfl rfl) ?_
                intro a ht
                refine wpl rfl rfl ht (ev_assign ht rfl rfl) ?_
                intro a ht
                refine wpList_nil ?_
                refine blk_normal ?_
                exact then_normal ⟨q14020, by omega, (ls1_1.set xs1_3.toNat l14029), (w64 (xs1_3 - 1)), (vss1_2.set xs1_3.toNat (.slice A14030 m14032 c14031)), H, by omega, ht.sub ⟨rfl, rfl, rfl, rfl, rfl, rfl, rfl, rfl, rfl, rfl, rfl, rfl, rfl, rfl, rfl, rfl, rfl, rfl, rfl, rfl, trivial⟩, (hm.pick [0, 1, 2, 3, 4] rfl (by decide)).pickφ [3, 4, 0] rfl⟩
              · replace H := ite_no h14028 H
                refine wpc_no ht rfl (Bool.eq_false_iff.mpr h14028) ?_
                refine wp_exit ?_
                refine then_exit ?_
                refine then_exit ?_
                refine blk_hit ?_
                refine then_normal ?_
                refine wpr ?_
                refine wpl rfl rfl ht (ev_move ht rfl rfl) ?_
                intro a ht
                refine wpl rfl rfl ht (ev_move ht rfl rfl) ?_
                intro a ht
                refine wpl rfl rfl ht (ev_move ht rfl rfl) ?_
                intro a ht
                obtain ⟨l14036, el14036, H⟩ := bind_get H
                refine wpl rfl rfl ht (ev_index_rows ht rfl rfl rfl so_49 (hm.rowsOf 3 3 rfl rfl) el14036) ?_
                intro a ht
                replace hm : Ms _ _ _ _ (AllInts (vss1_2.set xs1_3.toNat (.slice A14012 m14014 c14013)) (ls1_1.set xs1_3.toNat t14011) :: _) w := hm.addφ (allInts_set xs1_3.toNat (hm.ro 3 rfl) (hm.ro 1 rfl))
                refine wpl_store_row 3 rfl rfl ht hm rfl rfl rfl sz1_25 rfl (hm.rowsOf 3 4 rfl rfl) el14036 ?_
                intro a ht w hm
                refine wpList_nil ?_
                refine blk_normal ?_
                refine then_normal ?_
                refine wpr ?_
                refine wpl rfl rfl ht (ev_move ht rfl rfl) ?_
                intro a ht
                refine wpl rfl rfl ht (ev_arith ht rfl rfl rfl rfl) ?_
                intro a ht
                refine wpl rfl rfl ht (ev_assign ht rfl rfl) ?_
                intro a ht
                refine wpList_nil ?_
                exact then_normal ⟨q14020, by omega, (ls1_1.set xs1_3.toNat t14011), (w64 (xs0_6 + 1)), A14016, c14017, m14018, (vss1_2.set xs1_3.toNat (.slice A14012 m14014 c14013)), H, by omega, ht.sub ⟨rfl, rfl, rfl, rfl, rfl, trivial⟩, (hm.pick [1, 2, 3, 4] rfl (by decide)).pickφ [0] rfl⟩
            · replace H := ite_no h14021 H
              refine wpl_no rfl rfl ht rfl (by rw [(decide_eq_false h14021)]; decide) ?_
              intro a ht
              refine wpl_no rfl rfl ht rfl (by rw [(decide_eq_false h14021)]; decide) ?_
              intro a ht
              refine wpl_no rfl rfl ht rfl (by rw [(decide_eq_false h14021)]; decide) ?_
              intro a ht
              refine wpl_no rfl rfl ht rfl (by rw [(decide_eq_false h14021)]; decide) ?_
              intro a ht
              refine wpl_no rfl rfl ht rfl (by rw [(decide_eq_false h14021)]; decide) ?_
              intro a ht
              refine wpl_no rfl rfl ht rfl (by rw [(decide_eq_false h14021)]; decide) ?_
              intro a ht
              refine wpl_no rfl rfl ht rfl (by rw [(decide_eq_false h14021)]; decide) ?_
              intro a ht
              refine wpl rfl rfl ht (ev_pick_no ht rfl rfl (decide_eq_false h14021) rfl) ?_
              intro a ht
              refine wpList_nil ?_
              refine then_normal ?_
              refine wpc_no ht rfl rfl ?_
              refine wp_exit ?_
              refine then_exit ?_
              refine then_exit ?_
              refine blk_hit ?_
              refine then_normal ?_
              refine wpr ?_
              refine wpl rfl rfl ht (ev_move ht rfl rfl) ?_
              intro a ht
              refine wpl rfl rfl ht (ev_move ht rfl rfl) ?_
              intro a ht
              refine wpl rfl rfl ht (ev_move ht rfl rfl) ?_
              intro a ht
              obtain ⟨l14038, el14038, H⟩ := bind_get H
              refine wpl rfl rfl ht (ev_index_rows ht rfl rfl rfl so_49 (hm.rowsOf 3 2 rfl rfl) el14038) ?_
              intro a ht
              replace hm : Ms _ _ _ _ (AllInts (vss1_2.set xs1_3.toNat (.slice A14012 m14014 c14013)) (ls1_1.set xs1_3.toNat t14011) :: _) w := hm.addφ (allInts_set xs1_3.toNat (hm.ro 2 rfl) (hm.ro 0 rfl))
              refine wpl_store_row 3 rfl rfl ht hm rfl rfl rfl sz1_25 rfl (hm.rowsOf 3 3 rfl rfl) el14038 ?_
              intro a ht w hm
              refine wpList_nil ?_
              refine blk_normal ?_
              refine then_normal ?_
              refine wpr ?_
              refine wpl rfl rfl ht (ev_move ht rfl rfl) ?_
              intro a ht
              refine wpl rfl rfl ht (ev_arith ht rfl rfl rfl rfl) ?_
              intro a ht
              refine wpl rfl rfl ht (ev_assign ht rfl rfl) ?_
              intro a ht
              refine wpList_nil ?_
              exact then_normal ⟨q14020, by omega, (ls1_1.set xs1_3.toNat t14011), (w64 (xs0_6 + 1)), A14016, c14017, m14018, (vss1_2.set xs1_3.toNat (.slice A14012 m14014 c14013)), H, by omega, ht.sub ⟨rfl, rfl, rfl, rfl, rfl, trivial⟩, (hm.pick [1, 2, 3, 4] rfl (by decide)).pickφ [0] rfl⟩
          · replace H := ite_no h14009 H
            refine wpc_no ht rfl (decide_eq_false h14009) ?_
            refine wp_exit ?_
            refine then_exit ?_
            refine then_exit ?_
            refine blk_hit ?_
            refine then_normal ?_
            refine wp_seq ?_
            refine wpr ?_
            refine wpl rfl rfl ht (ev_move ht rfl rfl) ?_
            intro a ht
            refine wpl rfl rfl ht (ev_assign ht rfl rfl) ?_
            intro a ht
            refine wpl rfl rfl ht (ev_assign ht rfl rfl) ?_
            intro a ht
            refine wpList_nil ?_
            refine then_normal ?_
            refine wp_ret ?_
            have hres := ht.res (P := Try.prog) (w := w) (rs := [.tmp 4, .tmp 5]) (vs := [.slice As0_1 ms0_3 cs0_2, .int .i64 0]) (.tmp rfl (.tmp rfl .nil))
            obtain rfl := Option.some.inj H
            exact leave ht rfl hres ⟨As0_1, cs0_2, ms0_3, vss0_5, rfl, ((hm.pick [2] rfl (by decide)).pickφ [0] rfl).post fun _ h => h⟩
    · refine wph_step rfl ?_
      replace hm : Ms _ _ _ _ (AllInts ([]) ([] : List (List Int)) :: _) w := hm.addφ (allInts_nil)
      refine wpl_buildSlice (vs := []) rfl rfl ht hm rfl und_49 zo_25 sz1_25 (by decide) rfl rfl rfl ?_
      intro A10506 a ht w hm
      have hS : Ms X (fps []) w0 [.blk b1 28 (Col.cells x)] [IntsAt none 0 0 ([] : List Int)] w := (hm.pick [1] rfl (by decide)).pickφ [1] rfl
      refine wpList_nil (qn ⟨hS, ?_⟩)
      refine wph_two (i := 2) (j := 8) (by kernel_rfl) ?_ ?_ 
      · refine wph_step rfl ?_
        obtain ⟨t2506, et2506, H⟩ := bind_get H
        have hcall := spec_l02Rows.calls k _ _ x c _ ((fun (hq : Ms _ _ _ ([] ++ [.vec A10506 0 25 1 0 ([]), .blk b1 28 (Col.cells x)]) _ _) => hq.lend (φp := []) (allRO_nil)) (hm.pick (own' := [] ++ [.vec A10506 0 25 1 0 ([]), .blk b1 28 (Col.cells x)]) [0, 1] rfl (by decide))) et2506
        refine wpl_call _ rfl rfl ht rfl rfl rfl rfl can_59 hcall ?_
        clear hcall
        rintro _ w ⟨A2507, c2508, m2509, rfl, hpost⟩ a ht
        replace hm := (hm.pick (own' := [] ++ [.vec A10506 0 25 1 0 ([]), .blk b1 28 (Col.cells x)]) [0, 1] rfl (by decide)).backL hpost
        clear hpost
        have hS : Ms X (fps []) w0 [.blk b1 28 (Col.cells x)] [IntsAt none 0 0 ([] : List Int)] w := (hm.pick [2] rfl (by decide)).pickφ [1] rfl
        refine wpList_nil (qn ⟨hS, ?_⟩)
        refine wph_one (i := 8) (by kernel_rfl) (wph_step rfl ?_)
        refine wpl_build_ints (l := ([] : List Int)) rfl rfl ht hm rfl und_25 zo_2 sz1_2 (by decide) rfl rfl rfl ?_
        intro A8506 a ht w hm
        have hS : Ms X (fps []) w0 [.blk b1 28 (Col.cells x)] [IntsAt none 0 0 ([] : List Int)] w := (hm.pick [3] rfl (by decide)).pickφ [1] rfl
        refine wpList_nil (qn ⟨hS, ?_⟩)
        refine wph_one (i := 9) (by kernel_rfl) (wph_step rfl ?_)
        obtain ⟨t9506, et9506, H⟩ := bind_get H
        have hcall := spec_l02Full.calls k _ _ A2507 c2508 m2509 A8506 0 0 t2506 0 (w64 ((shlI .i64 1 (wu64 x.p)) - 1)) 0 ([] : List Int) 201 _ ((fun (hq : Ms _ _ _ ([.vec A8506 0 2 1 0 (ints ([] : List Int))] ++ [.vec A2507 c2508 2 1 m2509 (ints t2506), .vec A10506 0 25 1 0 ([]), .blk b1 28 (Col.cells x)]) _ _) => hq.lend (φp := [IntsAt A2507 c2508 m2509 t2506]) (allRO_cons (hq.lendVec 0 rfl) (allRO_nil))) (hm.pick (own' := [.vec A8506 0 2 1 0 (ints ([] : List Int))] ++ [.vec A2507 c2508 2 1 m2509 (ints t2506), .vec A10506 0 25 1 0 ([]), .blk b1 28 (Col.cells x)]) [0, 1, 2, 3] rfl (by decide))) et9506
        refine wpl_call _ rfl rfl ht rfl rfl rfl rfl can_92 hcall ?_
        clear hcall
        rintro _ w ⟨A9507, c9508, m9509, rfl, hpost⟩ a ht
        replace hm := (hm.pick (own' := [.vec A8506 0 2 1 0 (ints ([] : List Int))] ++ [.vec A2507 c2508 2 1 m2509 (ints t2506), .vec A10506 0 25 1 0 ([]), .blk b1 28 (Col.cells x)]) [0, 1, 2, 3] rfl (by decide)).backL hpost
        clear hpost
        have hS : Ms X (fps []) w0 [.blk b1 28 (Col.cells x)] [IntsAt none 0 0 ([] : List Int)] w := (hm.pick [3] rfl (by decide)).pickφ [1] rfl
        refine wpList_nil (qn ⟨hS, ?_⟩)
        refine wph_take (i := 11) rfl (by kernel_rfl) (by kernel_rfl) (by kernel_rfl) (fun _ _ _ h => h) rfl ht hS (wanted_plain rfl) (fun w hm => ev_assign ht rfl rfl) ?_
        intro a ht
        refine wph_take (i := 12) rfl (by kernel_rfl) (by kernel_rfl) (by kernel_rfl) (fun _ _ _ h => h) rfl ht hS (wanted_plain rfl) (fun w hm => ev_assign ht rfl rfl) ?_
        intro a ht
        refine wph_done (by kernel_rfl) ?_
        replace hm := hm.pick (own' := [.vec A2507 c2508 2 1 m2509 (ints t2506), .vec A9507 c9508 2 1 m9509 (ints t9506), .vec A10506 0 25 1 0 ([]), .blk b1 28 (Col.cells x)]) [1, 0, 2, 3] rfl (by decide)
        refine then_normal ?_
        refine wp_seq ?_
        refine wp_seq ?_
        refine wpr ?_
        refine wpl rfl rfl ht (ev_move ht rfl rfl) ?_
        intro a ht
        refine wpl rfl rfl ht (ev_len_of ht rfl rfl und_25 (hm.vec_row 1 rfl)) ?_
        intro a ht
        refine wpl rfl rfl ht (ev_cmp ht rfl rfl rfl rfl) ?_
        intro a ht
        refine wpList_nil ?_
        refine then_normal ?_
        by_cases h14006 : (t9506.length : Int) > 200
        · replace H := ite_yes h14006 H
          refine wpc_yes ht rfl (decide_eq_true h14006) ?_
          refine wp_seq ?_
          refine wpr ?_
          refine wpl rfl rfl ht (ev_assign ht rfl rfl) ?_
          intro a ht
          refine wpl rfl rfl ht (ev_assign ht rfl rfl) ?_
          intro a ht
          refine wpList_nil ?_
          refine then_normal ?_
          refine wp_ret ?_
          refine then_ret ?_
          have hres := ht.res (P := Try.prog) (w := w) (rs := [.tmp 4, .tmp 5]) (vs := [.slice none 0 0, .int .i64 3]) (.tmp rfl (.tmp rfl .nil))
          replace hm : Ms _ _ _ _ (AllInts ([]) ([] : List (List Int)) :: _) w := hm.addφ allInts_nil
          replace hm : Ms _ _ _ (.vec none 0 25 1 0 ([]) :: _) _ w := hm.nilVec none 25 1
          obtain rfl := Option.some.inj H
          exact leave ht rfl hres ⟨none, 0, 0, [], rfl, ((hm.pick [0] rfl (by decide)).pickφ [0] rfl).post fun _ h => h⟩
        · replace H := ite_no h14006 H
          refine wpc_no ht rfl (decide_eq_false h14006) ?_
          refine wp_skip ?_
          refine then_normal ?_
          refine wp_seq ?_
          refine wp_seq ?_
          refine wpr ?_
          refine wpl rfl rfl ht (ev_assign ht rfl rfl) ?_
          intro a ht
          refine wpList_nil ?_
          refine then_normal ?_
          refine wp_block ?_
          refine wpLoop (fun q a w => ∃ (ls0_4 : List (List Int)) (xs0_6 : Int) (As0_1 : Option Addr) (cs0_2 : Nat) (ms0_3 : Nat) (vss0_5 : List Value), spec_FullCliques.l0 q t9506 ls0_4 xs0_6 = some r ∧ q ≤ k ∧ Tm 75 [(4, .slice none 0 0), (5, .int .i64 0), (7, .slice A9507 m9509 c9508), (8, .slice As0_1 ms0_3 cs0_2), (9, .int .i64 xs0_6)] a ∧ Ms X (fps []) w0 [.vec A2507 c2508 2 1 m2509 (ints t2506), .vec A9507 c9508 2 1 m9509 (ints t9506), .vec As0_1 cs0_2 25 1 ms0_3 vss0_5, .blk b1 28 (Col.cells x)] [AllInts vss0_5 ls0_4] w) (k0 := k) ⟨([] : List (List Int)), 0, A10506, 0, 0, ([]), H, Nat.le_refl _, ht.sub ⟨rfl, rfl, rfl, rfl, rfl, trivial⟩, (hm.pick [0, 1, 2, 3] rfl (by decide)).pickφ [0] rfl⟩ ?_
          clear H ht hm
          intro q14008 a w hJ
          obtain ⟨ls0_4, xs0_6, As0_1, cs0_2, ms0_3, vss0_5, H, hqq14008, ht, hm⟩ := hJ
          cases q14008 with
          | zero => cases H
          | succ q14008 =>
          rw [spec_FullCliques.l0] at H
          refine wp_seq ?_
          refine wp_seq ?_
          refine wpr ?_
          refine wpl rfl rfl ht (ev_move ht rfl rfl) ?_
          intro a ht
          refine wpl rfl rfl ht (ev_move ht rfl rfl) ?_
          intro a ht
          refine wpl rfl rfl ht (ev_len_of ht rfl rfl und_25 (hm.vec_row 1 rfl)) ?_
          intro a ht
          refine wpl rfl rfl ht (ev_cmp ht rfl rfl rfl rfl) ?_
          intro a ht
          refine wpList_nil ?_
          refine then_normal ?_
          by_cases h14009 : xs0_6 < (t9506.length : Int)
          · replace H := ite_yes h14009 H
            refine wpc_yes ht rfl (decide_eq_true h14009) ?_
            refine wp_skip ?_
            refine then_normal ?_
            refine wp_seq ?_
            refine wp_block ?_
            refine wp_seq ?_
            refine wpr ?_
            refine wpl rfl rfl ht (ev_move ht rfl rfl) ?_
            intro a ht
            refine wpl rfl rfl ht (ev_move ht rfl rfl) ?_
            intro a ht
            obtain ⟨t14010, et14010, H⟩ := bind_get H
            refine wpl rfl rfl ht (ev_index_ints ht rfl rfl rfl so_25 (hm.vec_row 1 rfl) et14010) ?_
            intro a ht
            refine wpl rfl rfl ht (ev_load ht rfl rfl sc_2 (RowAt.cell (hm.vec_row 1 rfl) (ints_get et14010) rfl)) ?_
            intro a ht
            obtain ⟨t14011, et14011, H⟩ := bind_get H
            have hcall := spec_l01Points.calls q14008 _ _ t14010 _ ((fun (hq : Ms _ _ _ ([] ++ [.vec A2507 c2508 2 1 m2509 (ints t2506), .vec A9507 c9508 2 1 m9509 (ints t9506), .vec As0_1 cs0_2 25 1 ms0_3 vss0_5, .blk b1 28 (Col.cells x)]) _ _) => hq.lend (φp := []) (allRO_nil)) (hm.pick (own' := [] ++ [.vec A2507 c2508 2 1 m2509 (ints t2506), .vec A9507 c9508 2 1 m9509 (ints t9506), .vec As0_1 cs0_2 25 1 ms0_3 vss0_5, .blk b1 28 (Col.cells x)]) [0, 1, 2, 3] rfl (by decide))) et14011
            refine wpl_call _ rfl rfl ht rfl rfl rfl rfl can_93 hcall ?_
            clear hcall
            rintro _ w ⟨A14012, c14013, m14014, rfl, hpost⟩ a ht
            replace hm := (hm.pick (own' := [] ++ [.vec A2507 c2508 2 1 m2509 (ints t2506), .vec A9507 c9508 2 1 m9509 (ints t9506), .vec As0_1 cs0_2 25 1 ms0_3 vss0_5, .blk b1 28 (Col.cells x)]) [0, 1, 2, 3] rfl (by decide)).backL hpost
            clear hpost
            refine wpl rfl rfl ht (ev_move ht rfl rfl) ?_
            intro a ht
            refine wpl rfl rfl ht (ev_len_rows ht rfl rfl und_49 (hm.rowsOf 3 0 rfl rfl)) ?_
            intro a ht
            refine wpl rfl rfl ht (ev_assign ht rfl rfl) ?_
            intro a ht
            refine wpl rfl rfl ht (ev_assign ht rfl rfl) ?_
            intro a ht
            refine wpList_nil ?_
            refine then_normal ?_
            refine wp_seq ?_
            refine wpr ?_
            refine wpl rfl rfl ht (ev_move ht rfl rfl) ?_
            intro a ht
            refine wpl rfl rfl ht (ev_move ht rfl rfl) ?_
            intro a ht
            replace hm : Ms _ _ _ _ (IntsAt A14012 c14013 m14014 t14011 :: _) w := hm.shutVec 0 rfl
            replace hm : Ms _ _ _ _ (AllInts ([.slice A14012 m14014 c14013]) ([t14011]) :: _) w := hm.addφ (allInts_cons (hm.ro 0 rfl) (allInts_nil))
            refine wpl_buildSlice (vs := [.slice A14012 m14014 c14013]) rfl rfl ht hm rfl und_49 zo_25 sz1_25 (by decide) rfl rfl rfl ?_
            intro A14015 a ht w hm
            obtain ⟨l14019, el14019, H⟩ := bind_get H
            replace hm : Ms _ _ _ _ (AllInts (vss0_5 ++ ([.slice A14012 m14014 c14013])) l14019 :: _) w := hm.addφ (allInts_append el14019 (hm.ro 2 rfl) (hm.ro 0 rfl))
            refine wpl_concat_rows (r := l14019) 3 0 3 1 rfl rfl ht hm rfl ap_49 rfl rfl rfl rfl rfl rfl el14019 ?_
            intro A14016 c14017 m14018 a ht w hm
            refine wpl rfl rfl ht (ev_assign ht rfl rfl) ?_
            intro a ht
            refine wpList_nil ?_
            refine then_normal ?_
            refine wp_seq ?_
            refine wp_block ?_
            refine wpLoop (fun q a w => ∃ (ls1_1 : List (List Int)) (xs1_3 : Int) (vss1_2 : List Value), spec_FullCliques.l1 q t9506 xs0_6 t14011 ls1_1 xs1_3 = some r ∧ q ≤ q14008 ∧ Tm 75 [(4, .slice none 0 0), (5, .int .i64 0), (7, .slice A9507 m9509 c9508), (8, .slice A14016 m14018 c14017), (9, .int .i64 xs0_6), (10, .slice A14012 m14014 c14013), (32, .int .i64 xs0_6), (33, .slice A9507 m9509 c9508), (34, .int .i64 (t9506.length : Int)), (35, .bool (decide (xs0_6 < (t9506.length : Int)))), (38, .slice A9507 m9509 c9508), (39, .int .i64 xs0_6), (40, .pointer (some (eaddr A9507 xs0_6.toNat 1))), (41, .int .i64 t14010), (42, .slice A14012 m14014 c14013), (44, .int .i64 (ls0_4.length : Int)), (46, .slice A14012 m14014 c14013), (47, .slice A14015 1 1), (48, .slice A14016 m14018 c14017), (11, .int .i64 xs1_3)] a ∧ Ms X (fps []) w0 [.vec A14015 1 25 1 1 ([.slice A14012 m14014 c14013]), .vec A2507 c2508 2 1 m2509 (ints t2506), .vec A9507 c9508 2 1 m9509 (ints t9506), .vec A14016 c14017 25 1 m14018 vss1_2, .blk b1 28 (Col.cells x)] [IntsAt A14012 c14013 m14014 t14011, AllInts ([.slice A14012 m14014 c14013]) ([t14011]), AllInts vss1_2 ls1_1] w) (k0 := q14008) ⟨l14019, (ls0_4.length : Int), (vss0_5 ++ ([.slice A14012 m14014 c14013])), H, Nat.le_refl _, ht.sub ⟨rfl, rfl, rfl, rfl, rfl, rfl, rfl, rfl, rfl, rfl, rfl, rfl, rfl, rfl, rfl, rfl, rfl, rfl, rfl, rfl, trivial⟩, (hm.pick [0, 1, 2, 3, 4] rfl (by decide)).pickφ [2, 1, 0] rfl⟩ ?_
            clear H ht hm
            intro q14020 a w hJ
            obtain ⟨ls1_1, xs1_3, vss1_2, H, hqq14020, ht, hm⟩ := hJ
            cases q14020 with
            | zero => cases H
            | succ q14020 =>
            rw [spec_FullCliques.l1] at H
            refine wp_seq ?_
            refine wp_seq ?_
            refine wpr ?_
            refine wpl rfl rfl ht (ev_move ht rfl rfl) ?_
            intro a ht
            refine wpl rfl rfl ht (ev_cmp ht rfl rfl rfl rfl) ?_
            intro a ht
            refine wpl rfl rfl ht (ev_move ht rfl rfl) ?_
            intro a ht
            by_cases h14021 : xs1_3 > 0
            · replace H := ite_yes h14021 H
              refine wpl_yes rfl ht rfl ((decide_eq_true h14021)) ?_
              refine wpl rfl rfl ht (ev_move ht rfl rfl) ?_
              intro a ht
              refine wpl_yes rfl ht rfl ((decide_eq_true h14021)) ?_
              refine wpl rfl rfl ht (ev_move ht rfl rfl) ?_
              intro a ht
              refine wpl_yes rfl ht rfl ((decide_eq_true h14021)) ?_
              refine wpl rfl rfl ht (ev_move ht rfl rfl) ?_
              intro a ht
              refine wpl_yes rfl ht rfl ((decide_eq_true h14021)) ?_
              refine wpl rfl rfl ht (ev_arith ht rfl rfl rfl rfl) ?_
              intro a ht
              refine wpl_yes rfl ht rfl ((decide_eq_true h14021)) ?_
              obtain ⟨l14022, el14022, H⟩ := bind_get H
              refine wpl rfl rfl ht (ev_index_rows ht rfl rfl rfl so_49 (hm.rowsOf 3 2 rfl rfl) el14022) ?_
              intro a ht
              refine wpl_yes rfl ht rfl ((decide_eq_true h14021)) ?_
              obtain ⟨A14023, c14024, m14025, hv14026, hI⟩ := rowsAt_get (hm.rowsOf 3 2 rfl rfl) el14022
              refine wpl rfl rfl ht (ev_load ht rfl rfl sc_25 (RowsAt.cell (hm.rowsOf 3 2 rfl rfl) hv14026)) ?_
              intro a ht
              replace hm : Ms _ _ _ _ (IntsAt A14023 c14024 m14025 l14022 :: _) w := hm.addφ ((hm.ro 2 rfl).mono fun w h => allInts_at h hv14026 el14022)
              clear hI
              refine wpl_yes rfl ht rfl ((decide_eq_true h14021)) ?_
              obtain ⟨t14027, et14027, H⟩ := bind_get H
              have hcall := spec_l02Before.calls q14020 _ _ A14012 c14013 m14014 A14023 c14024 m14025 t14011 l14022 _ ((fun (hq : Ms _ _ _ ([] ++ [.vec A14015 1 25 1 1 ([.slice A14012 m14014 c14013]), .vec A2507 c2508 2 1 m2509 (ints t2506), .vec A9507 c9508 2 1 m9509 (ints t9506), .vec A14016 c14017 25 1 m14018 vss1_2, .blk b1 28 (Col.cells x)]) _ _) => hq.lend (φp := [IntsAt A14012 c14013 m14014 t14011, IntsAt A14023 c14024 m14025 l14022]) (allRO_cons (hq.lendFact 1 rfl) (allRO_cons (hq.lendFact 0 rfl) (allRO_nil)))) (hm.pick (own' := [] ++ [.vec A14015 1 25 1 1 ([.slice A14012 m14014 c14013]), .vec A2507 c2508 2 1 m2509 (ints t2506), .vec A9507 c9508 2 1 m9509 (ints t9506), .vec A14016 c14017 25 1 m14018 vss1_2, .blk b1 28 (Col.cells x)]) [0, 1, 2, 3, 4] rfl (by decide))) et14027
              refine wpl_call _ rfl rfl ht rfl rfl rfl rfl can_94 hcall ?_
              clear hcall
              rintro _ w ⟨rfl, hpost⟩ a ht
              replace hm := (hm.pick (own' := [] ++ [.vec A14015 1 25 1 1 ([.slice A14012 m14014 c14013]), .vec A2507 c2508 2 1 m2509 (ints t2506), .vec A9507 c9508 2 1 m9509 (ints t9506), .vec A14016 c14017 25 1 m14018 vss1_2, .blk b1 28 (Col.cells x)]) [0, 1, 2, 3, 4] rfl (by decide)).backL hpost
              clear hpost
              refine wpl rfl rfl ht (ev_pick_yes ht rfl rfl (decide_eq_true h14021) rfl) ?_
              intro a ht
              refine wpList_nil ?_
              refine then_normal ?_
              by_cases h14028 : t14027 = true
              · replace H := ite_yes h14028 H
                refine wpc_yes ht rfl h14028 ?_
                refine wp_skip ?_
                refine then_normal ?_
                refine wp_block ?_
                refine wp_seq ?_
                refine wpr ?_
                refine wpl rfl rfl ht (ev_move ht rfl rfl) ?_
                intro a ht
                refine wpl rfl rfl ht (ev_move ht rfl rfl) ?_
                intro a ht
                refine wpl rfl rfl ht (ev_move ht rfl rfl) ?_
                intro a ht
                refine wpl rfl rfl ht (ev_move ht rfl rfl) ?_
                intro a ht
                refine wpl rfl rfl ht (ev_arith ht rfl rfl rfl rfl) ?_
                intro a ht
                obtain ⟨l14029, el14029, H⟩ := bind_get H
                refine wpl rfl rfl ht (ev_index_rows ht rfl rfl rfl so_49 (hm.rowsOf 3 3 rfl rfl) el14029) ?_
                intro a ht
                obtain ⟨A14030, c14031, m14032, hv14033, hI⟩ := rowsAt_get (hm.rowsOf 3 3 rfl rfl) el14029
                refine wpl rfl rfl ht (ev_load ht rfl rfl sc_25 (RowsAt.cell (hm.rowsOf 3 3 rfl rfl) hv14033)) ?_
                intro a ht
                replace hm : Ms _ _ _ _ (IntsAt A14030 c14031 m14032 l14029 :: _) w := hm.addφ ((hm.ro 3 rfl).mono fun w h => allInts_at h hv14033 el14029)
                clear hI
                obtain ⟨l14034, el14034, H⟩ := bind_get H
                refine wpl rfl rfl ht (ev_index_rows ht rfl rfl rfl so_49 (hm.rowsOf 3 4 rfl rfl) el14034) ?_
                intro a ht
                replace hm : Ms _ _ _ _ (AllInts (vss1_2.set xs1_3.toNat (.slice A14030 m14032 c14031)) (ls1_1.set xs1_3.toNat l14029) :: _) w := hm.addφ (allInts_set xs1_3.toNat (hm.ro 4 rfl) (hm.ro 0 rfl))
                refine wpl_store_row 3 rfl rfl ht hm rfl rfl rfl sz1_25 rfl (hm.rowsOf 3 5 rfl rfl) el14034 ?_
                intro a ht w hm
                refine wpList_nil ?_
                refine then_normal ?_
                refine wpr ?_
                refine wpl rfl rfl ht (ev_move ht rfl rfl) ?_
                intro a ht
                refine wpl rfl rfl ht (ev_arith ht rfl rfl rfl rfl) ?_
                intro a ht
                refine wpl rfl rfl ht (ev_assign ht rfl rfl) ?_
                intro a ht
                refine wpList_nil ?_
                refine blk_normal ?_
                exact then_normal ⟨q14020, by omega, (ls1_1.set xs1_3.toNat l14029), (w64 (xs1_3 - 1)), (vss1_2.set xs1_3.toNat (.slice A14030 m14032 c14031)), H, by omega, ht.sub ⟨rfl, rfl, rfl, rfl, rfl, rfl, rfl, rfl, rfl, rfl, rfl, rfl, rfl, rfl, rfl, rfl, rfl, rfl, rfl, rfl, trivial⟩, (hm.pick [0, 1, 2, 3, 4] rfl (by decide)).pickφ [3, 4, 0] rfl⟩
              · replace H := ite_no h14028 H
                refine wpc_no ht rfl (Bool.eq_false_iff.mpr h14028) ?_
                refine wp_exit ?_
                refine then_exit ?_
                refine then_exit ?_
                refine blk_hit ?_
                refine then_normal ?_
                refine wpr ?_
                refine wpl rfl rfl ht (ev_move ht rfl rfl) ?_
                intro a ht
                refine wpl rfl rfl ht (ev_move ht rfl rfl) ?_
                intro a ht
                refine wpl rfl rfl ht (ev_move ht rfl rfl) ?_
                intro a ht
                obtain ⟨l14036, el14036, H⟩ := bind_get H
                refine wpl rfl rfl ht (ev_index_rows ht rfl rfl rfl so_49 (hm.rowsOf 3 3 rfl rfl) el14036) ?_
                intro a ht
                replace hm : Ms _ _ _ _ (AllInts (vss1_2.set xs1_3.toNat (.slice A14012 m14014 c14013)) (ls1_1.set xs1_3.toNat t14011) :: _) w := hm.addφ (allInts_set xs1_3.toNat (hm.ro 3 rfl) (hm.ro 1 rfl))
                refine wpl_store_row 3 rfl rfl ht hm rfl rfl rfl sz1_25 rfl (hm.rowsOf 3 4 rfl rfl) el14036 ?_
                intro a ht w hm
                refine wpList_nil ?_
                refine blk_normal ?_
                refine then_normal ?_
                refine wpr ?_
                refine wpl rfl rfl ht (ev_move ht rfl rfl) ?_
                intro a ht
                refine wpl rfl rfl ht (ev_arith ht rfl rfl rfl rfl) ?_
                intro a ht
                refine wpl rfl rfl ht (ev_assign ht rfl rfl) ?_
                intro a ht
                refine wpList_nil ?_
                exact then_normal ⟨q14020, by omega, (ls1_1.set xs1_3.toNat t14011), (w64 (xs0_6 + 1)), A14016, c14017, m14018, (vss1_2.set xs1_3.toNat (.slice A14012 m14014 c14013)), H, by omega, ht.sub ⟨rfl, rfl, rfl, rfl, rfl, trivial⟩, (hm.pick [1, 2, 3, 4] rfl (by decide)).pickφ [0] rfl⟩
            · replace H := ite_no h14021 H
              refine wpl_no rfl rfl ht rfl (by rw [(decide_eq_false h14021)]; decide) ?_
              intro a ht
              refine wpl_no rfl rfl ht rfl (by rw [(decide_eq_false h14021)]; decide) ?_
              intro a ht
              refine wpl_no rfl rfl ht rfl (by rw [(decide_eq_false h14021)]; decide) ?_
              intro a ht
              refine wpl_no rfl rfl ht rfl (by rw [(decide_eq_false h14021)]; decide) ?_
              intro a ht
              refine wpl_no rfl rfl ht rfl (by rw [(decide_eq_false h14021)]; decide) ?_
              intro a ht
              refine wpl_no rfl rfl ht rfl (by rw [(decide_eq_false h14021)]; decide) ?_
              intro a ht
              refine wpl_no rfl rfl ht rfl (by rw [(decide_eq_false h14021)]; decide) ?_
              intro a ht
              refine wpl rfl rfl ht (ev_pick_no ht rfl rfl (decide_eq_false h14021) rfl) ?_
              intro a ht
              refine wpList_nil ?_
              refine then_normal ?_
              refine wpc_no ht rfl rfl ?_
              refine wp_exit ?_
              refine then_exit ?_
              refine then_exit ?_
              refine blk_hit ?_
              refine then_normal ?_
              refine wpr ?_
              refine wpl rfl rfl ht (ev_move ht rfl rfl) ?_
              intro a ht
              refine wpl rfl rfl ht (ev_move ht rfl rfl) ?_
              intro a ht
              refine wpl rfl rfl ht (ev_move ht rfl rfl) ?_
              intro a ht
              obtain ⟨l14038, el14038, H⟩ := bind_get H
              refine wpl rfl rfl ht (ev_index_rows ht rfl rfl rfl so_49 (hm.rowsOf 3 2 rfl rfl) el14038) ?_
              intro a ht
              replace hm : Ms _ _ _ _ (AllInts (vss1_2.set xs1_3.toNat (.slice A14012 m14014 c14013)) (ls1_1.set xs1_3.toNat t14011) :: _) w := hm.addφ (allInts_set xs1_3.toNat (hm.ro 2 rfl) (hm.ro 0 rfl))
              refine wpl_store_row 3 rfl rfl ht hm rfl rfl rfl sz1_25 rfl (hm.rowsOf 3 3 rfl rfl) el14038 ?_
              intro a ht w hm
              refine wpList_nil ?_
              refine blk_normal ?_
              refine then_normal ?_
              refine wpr ?_
              refine wpl rfl rfl ht (ev_move ht rfl rfl) ?_
              intro a ht
              refine wpl rfl rfl ht (ev_arith ht rfl rfl rfl rfl) ?_
              intro a ht
              refine wpl rfl rfl ht (ev_assign ht rfl rfl) ?_
              intro a ht
              refine wpList_nil ?_
              exact then_normal ⟨q14020, by omega, (ls1_1.set xs1_3.toNat t14011), (w64 (xs0_6 + 1)), A14016, c14017, m14018, (vss1_2.set xs1_3.toNat (.slice A14012 m14014 c14013)), H, by omega, ht.sub ⟨rfl, rfl, rfl, rfl, rfl, trivial⟩, (hm.pick [1, 2, 3, 4] rfl (by decide)).pickφ [0] rfl⟩
          · replace H := ite_no h14009 H
            refine wpc_no ht rfl (decide_eq_false h14009) ?_
            refine wp_exit ?_
            refine then_exit ?_
            refine then_exit ?_
            refine blk_hit ?_
            refine then_normal ?_
            refine wp_seq ?_
            refine wpr ?_
            refine wpl rfl rfl ht (ev_move ht rfl rfl) ?_
            intro a ht
            refine wpl rfl rfl ht (ev_assign ht rfl rfl) ?_
            intro a ht
            refine wpl rfl rfl ht (ev_assign ht rfl rfl) ?_
            intro a ht
            refine wpList_nil ?_
            refine then_normal ?_
            refine wp_ret ?_
            have hres := ht.res (P := Try.prog) (w := w) (rs := [.tmp 4, .tmp 5]) (vs := [.slice As0_1 ms0_3 cs0_2, .int .i64 0]) (.tmp rfl (.tmp rfl .nil))
            obtain rfl := Option.some.inj H
            exact leave ht rfl hres ⟨As0_1, cs0_2, ms0_3, vss0_5, rfl, ((hm.pick [2] rfl (by decide)).pickφ [0] rfl).post fun _ h => h⟩
      · refine wph_step rfl ?_
        refine wpl_build_ints (l := ([] : List Int)) rfl rfl ht hm rfl und_25 zo_2 sz1_2 (by decide) rfl rfl rfl ?_
        intro A8506 a ht w hm
        have hS : Ms X (fps []) w0 [.blk b1 28 (Col.cells x)] [IntsAt none 0 0 ([] : List Int)] w := (hm.pick [2] rfl (by decide)).pickφ [1] rfl
        refine wpList_nil (qn ⟨hS, ?_⟩)
        refine wph_one (i := 2) (by kernel_rfl) (wph_step rfl ?_)
        obtain ⟨t2506, et2506, H⟩ := bind_get H
        have hcall := spec_l02Rows.calls k _ _ x c _ ((fun (hq : Ms _ _ _ ([] ++ [.vec A8506 0 2 1 0 (ints ([] : List Int)), .vec A10506 0 25 1 0 ([]), .blk b1 28 (Col.cells x)]) _ _) => hq.lend (φp := []) (allRO_nil)) (hm.pick (own' := [] ++ [.vec A8506 0 2 1 0 (ints ([] : List Int)), .vec A10506 0 25 1 0 ([]), .blk b1 28 (Col.cells x)]) [0, 1, 2] rfl (by decide))) et2506
        refine wpl_call _ rfl rfl ht rfl rfl rfl rfl can_59 hcall ?_
        clear hcall
        rintro _ w ⟨A2507, c2508, m2509, rfl, hpost⟩ a ht
        replace hm := (hm.pick (own' := [] ++ [.vec A8506 0 2 1 0 (ints ([] : List Int)), .vec A10506 0 25 1 0 ([]), .blk b1 28 (Col.cells x)]) [0, 1, 2] rfl (by decide)).backL hpost
        clear hpost
        have hS : Ms X (fps []) w0 [.blk b1 28 (Col.cells x)] [IntsAt none 0 0 ([] : List Int)] w := (hm.pick [3] rfl (by decide)).pickφ [1] rfl
        refine wpList_nil (qn ⟨hS, ?_⟩)
        refine wph_one (i := 9) (by kernel_rfl) (wph_step rfl ?_)
        obtain ⟨t9506, et9506, H⟩ := bind_get H
        have hcall := spec_l02Full.calls k _ _ A2507 c2508 m2509 A8506 0 0 t2506 0 (w64 ((shlI .i64 1 (wu64 x.p)) - 1)) 0 ([] : List Int) 201 _ ((fun (hq : Ms _ _ _ ([.vec A8506 0 2 1 0 (ints ([] : List Int))] ++ [.vec A2507 c2508 2 1 m2509 (ints t2506), .vec A10506 0 25 1 0 ([]), .blk b1 28 (Col.cells x)]) _ _) => hq.lend (φp := [IntsAt A2507 c2508 m2509 t2506]) (allRO_cons (hq.lendVec 0 rfl) (allRO_nil))) (hm.pick (own' := [.vec A8506 0 2 1 0 (ints ([] : List Int))] ++ [.vec A2507 c2508 2 1 m2509 (ints t2506), .vec A10506 0 25 1 0 ([]), .blk b1 28 (Col.cells x)]) [1, 0, 2, 3] rfl (by decide))) et9506
        refine wpl_call _ rfl rfl ht rfl rfl rfl rfl can_92 hcall ?_
        clear hcall
        rintro _ w ⟨A9507, c9508, m9509, rfl, hpost⟩ a ht
        replace hm := (hm.pick (own' := [.vec A8506 0 2 1 0 (ints ([] : List Int))] ++ [.vec A2507 c2508 2 1 m2509 (ints t2506), .vec A10506 0 25 1 0 ([]), .blk b1 28 (Col.cells x)]) [1, 0, 2, 3] rfl (by decide)).backL hpost
        clear hpost
        have hS : Ms X (fps []) w0 [.blk b1 28 (Col.cells x)] [IntsAt none 0 0 ([] : List Int)] w := (hm.pick [3] rfl (by decide)).pickφ [1] rfl
        refine wpList_nil (qn ⟨hS, ?_⟩)
        refine wph_take (i := 11) rfl (by kernel_rfl) (by kernel_rfl) (by kernel_rfl) (fun _ _ _ h => h) rfl ht hS (wanted_plain rfl) (fun w hm => ev_assign ht rfl rfl) ?_
        intro a ht
        refine wph_take (i := 12) rfl (by kernel_rfl) (by kernel_rfl) (by kernel_rfl) (fun _ _ _ h => h) rfl ht hS (wanted_plain rfl) (fun w hm => ev_assign ht rfl rfl) ?_
        intro a ht
        refine wph_done (by kernel_rfl) ?_
        replace hm := hm.pick (own' := [.vec A2507 c2508 2 1 m2509 (ints t2506), .vec A9507 c9508 2 1 m9509 (ints t9506), .vec A10506 0 25 1 0 ([]), .blk b1 28 (Col.cells x)]) [1, 0, 2, 3] rfl (by decide)
        refine then_normal ?_
        refine wp_seq ?_
        refine wp_seq ?_
        refine wpr ?_
        refine wpl rfl rfl ht (ev_move ht rfl rfl) ?_
        intro a ht
        refine wpl rfl rfl ht (ev_len_of ht rfl rfl und_25 (hm.vec_row 1 rfl)) ?_
        intro a ht
        refine wpl rfl rfl ht (ev_cmp ht rfl rfl rfl rfl) ?_
        intro a ht
        refine wpList_nil ?_
        refine then_normal ?_
        by_cases h14006 : (t9506.length : Int) > 200
        · replace H := ite_yes h14006 H
          refine wpc_yes ht rfl (decide_eq_true h14006) ?_
          refine wp_seq ?_
          refine wpr ?_
          refine wpl rfl rfl ht (ev_assign ht rfl rfl) ?_
          intro a ht
          refine wpl rfl rfl ht (ev_assign ht rfl rfl) ?_
          intro a ht
          refine wpList_nil ?_
          refine then_normal ?_
          refine wp_ret ?_
          refine then_ret ?_
          have hres := ht.res (P := Try.prog) (w := w) (rs := [.tmp 4, .tmp 5]) (vs := [.slice none 0 0, .int .i64 3]) (.tmp rfl (.tmp rfl .nil))
          replace hm : Ms _ _ _ _ (AllInts ([]) ([] : List (List Int)) :: _) w := hm.addφ allInts_nil
          replace hm : Ms _ _ _ (.vec none 0 25 1 0 ([]) :: _) _ w := hm.nilVec none 25 1
          obtain rfl := Option.some.inj H
          exact leave ht rfl hres ⟨none, 0, 0, [], rfl, ((hm.pick [0] rfl (by decide)).pickφ [0] rfl).post fun _ h => h⟩
        · replace H := ite_no h14006 H
          refine wpc_no ht rfl (decide_eq_false h14006) ?_
          refine wp_skip ?_
          refine then_normal ?_
          refine wp_seq ?_
          refine wp_seq ?_
          refine wpr ?_
          refine wpl rfl rfl ht (ev_assign ht rfl rfl) ?_
          intro a ht
          refine wpList_nil ?_
          refine then_normal ?_
          refine wp_block ?_
          refine wpLoop (fun q a w => ∃ (ls0_4 : List (List Int)) (xs0_6 : Int) (As0_1 : Option Addr) (cs0_2 : Nat) (ms0_3 : Nat) (vss0_5 : List Value), spec_FullCliques.l0 q t9506 ls0_4 xs0_6 = some r ∧ q ≤ k ∧ Tm 75 [(4, .slice none 0 0), (5, .int .i64 0), (7, .slice A9507 m9509 c9508), (8, .slice As0_1 ms0_3 cs0_2), (9, .int .i64 xs0_6)] a ∧ Ms X (fps []) w0 [.vec A2507 c2508 2 1 m2509 (ints t2506), .vec A9507 c9508 2 1 m9509 (ints t9506), .vec As0_1 cs0_2 25 1 ms0_3 vss0_5, .blk b1 28 (Col.cells x)] [AllInts vss0_5 ls0_4] w) (k0 := k) ⟨([] : List (List Int)), 0, A10506, 0, 0, ([]), H, Nat.le_refl _, ht.sub ⟨rfl, rfl, rfl, rfl, rfl, trivial⟩, (hm.pick [0, 1, 2, 3] rfl (by decide)).pickφ [0] rfl⟩ ?_
          clear H ht hm
          intro q14008 a w hJ
          obtain ⟨ls0_4, xs0_6, As0_1, cs0_2, ms0_3, vss0_5, H, hqq14008, ht, hm⟩ := hJ
          cases q14008 with
          | zero => cases H
          | succ q14008 =>
          rw [spec_FullCliques.l0] at H
          refine wp_seq ?_
          refine wp_seq ?_
          refine wpr ?_
          refine wpl rfl rfl ht (ev_move ht rfl rfl) ?_
          intro a ht
          refine wpl rfl rfl ht (ev_move ht rfl rfl) ?_
          intro a ht
          refine wpl rfl rfl ht (ev_len_of ht rfl rfl und_25 (hm.vec_row 1 rfl)) ?_
          intro a ht
          refine wpl rfl rfl ht (ev_cmp ht rfl rfl rfl rfl) ?_
          intro a ht
          refine wpList_nil ?_
          refine then_normal ?_
          by_cases h14009 : xs0_6 < (t9506.length : Int)
          · replace H := ite_yes h14009 H
            refine wpc_yes ht rfl (decide_eq_true h14009) ?_
            refine wp_skip ?_
            refine then_normal ?_
            refine wp_seq ?_
            refine wp_block ?_
            refine wp_seq ?_
            refine wpr ?_
            refine wpl rfl rfl ht (ev_move ht rfl rfl) ?_
            intro a ht
            refine wpl rfl rfl ht (ev_move ht rfl rfl) ?_
            intro a ht
            obtain ⟨t14010, et14010, H⟩ := bind_get H
            refine wpl rfl rfl ht (ev_index_ints ht rfl rfl rfl so_25 (hm.vec_row 1 rfl) et14010) ?_
            intro a ht
            refine wpl rfl rfl ht (ev_load ht rfl rfl sc_2 (RowAt.cell (hm.vec_row 1 rfl) (ints_get et14010) rfl)) ?_
            intro a ht
            obtain ⟨t14011, et14011, H⟩ := bind_get H
            have hcall := spec_l01Points.calls q14008 _ _ t14010 _ ((fun (hq : Ms _ _ _ ([] ++ [.vec A2507 c2508 2 1 m2509 (ints t2506), .vec A9507 c9508 2 1 m9509 (ints t9506), .vec As0_1 cs0_2 25 1 ms0_3 vss0_5, .blk b1 28 (Col.cells x)]) _ _) => hq.lend (φp := []) (allRO_nil)) (hm.pick (own' := [] ++ [.vec A2507 c2508 2 1 m2509 (ints t2506), .vec A9507 c9508 2 1 m9509 (ints t9506), .vec As0_1 cs0_2 25 1 ms0_3 vss0_5, .blk b1 28 (Col.cells x)]) [0, 1, 2, 3] rfl (by decide))) et14011
            refine wpl_call _ rfl rfl ht rfl rfl rfl rfl can_93 hcall ?_
            clear hcall
            rintro _ w ⟨A14012, c14013, m14014, rfl, hpost⟩ a ht
            replace hm := (hm.pick (own' := [] ++ [.vec A2507 c2508 2 1 m2509 (ints t2506), .vec A9507 c9508 2 1 m9509 (ints t9506), .vec As0_1 cs0_2 25 1 ms0_3 vss0_5, .blk b1 28 (Col.cells x)]) [0, 1, 2, 3] rfl (by decide)).backL hpost
            clear hpost
            refine wpl rfl rfl ht (ev_move ht rfl rfl) ?_
            intro a ht
            refine wpl rfl rfl ht (ev_len_rows ht rfl rfl und_49 (hm.rowsOf 3 0 rfl rfl)) ?_
            intro a ht
            refine wpl rfl rfl ht (ev_assign ht rfl rfl) ?_
            intro a ht
            refine wpl rfl rfl ht (ev_assign ht rfl rfl) ?_
            intro a ht
            refine wpList_nil ?_
            refine then_normal ?_
            refine wp_seq ?_
            refine wpr ?_
            refine wpl rfl rfl ht (ev_move ht rfl rfl) ?_
            intro a ht
            refine wpl rfl rfl ht (ev_move ht rfl rfl) ?_
            intro a ht
            replace hm : Ms _ _ _ _ (IntsAt A14012 c14013 m14014 t14011 :: _) w := hm.shutVec 0 rfl
            replace hm : Ms _ _ _ _ (AllInts ([.slice A14012 m14014 c14013]) ([t14011]) :: _) w := hm.addφ (allInts_cons (hm.ro 0 rfl) (allInts_nil))
            refine wpl_buildSlice (vs := [.slice A14012 m14014 c14013]) rfl rfl ht hm rfl und_49 zo_25 sz1_25 (by decide) rfl rfl rfl ?_
            intro A14015 a ht w hm
            obtain ⟨l14019, el14019, H⟩ := bind_get H
            replace hm : Ms _ _ _ _ (AllInts (vss0_5 ++ ([.slice A14012 m14014 c14013])) l14019 :: _) w := hm.addφ (allInts_append el14019 (hm.ro 2 rfl) (hm.ro 0 rfl))
            refine wpl_concat_rows (r := l14019) 3 0 3 1 rfl rfl ht hm rfl ap_49 rfl rfl rfl rfl rfl rfl el14019 ?_
            intro A14016 c14017 m14018 a ht w hm
            refine wpl rfl rfl ht (ev_assign ht rfl rfl) ?_
            intro a ht
            refine wpList_nil ?_
            refine then_normal ?_
            refine wp_seq ?_
            refine wp_block ?_
            refine wpLoop (fun q a w => ∃ (ls1_1 : List (List Int)) (xs1_3 : Int) (vss1_2 : List Value), spec_FullCliques.l1 q t9506 xs0_6 t14011 ls1_1 xs1_3 = some r ∧ q ≤ q14008 ∧ Tm 75 [(4, .slice none 0 0), (5, .int .i64 0), (7, .slice A9507 m9509 c9508), (8, .slice A14016 m14018 c14017), (9, .int .i64 xs0_6), (10, .slice A14012 m14014 c14013), (32, .int .i64 xs0_6), (33, .slice A9507 m9509 c9508), (34, .int .i64 (t9506.length : Int)), (35, .bool (decide (xs0_6 < (t9506.length : Int)))), (38, .slice A9507 m9509 c9508), (39, .int .i64 xs0_6), (40, .pointer (some (eaddr A9507 xs0_6.toNat 1))), (41, .int .i64 t14010), (42, .slice A14012 m14014 c14013), (44, .int .i64 (ls0_4.length : Int)), (46, .slice A14012 m14014 c14013), (47, .slice A14015 1 1), (48, .slice A14016 m14018 c14017), (11, .int .i64 xs1_3)] a ∧ Ms X (fps []) w0 [.vec A14015 1 25 1 1 ([.slice A14012 m14014 c14013]), .vec A2507 c2508 2 1 m2509 (ints t2506), .vec A9507 c9508 2 1 m9509 (ints t9506), .vec A14016 c14017 25 1 m14018 vss1_2, .blk b1 28 (Col.cells x)] [IntsAt A14012 c14013 m14014 t14011, AllInts ([.slice A14012 m14014 c14013]) ([t14011]), AllInts vss1_2 ls1_1] w) (k0 := q14008) ⟨l14019, (ls0_4.length : Int), (vss0_5 ++ ([.slice A14012 m14014 c14013])), H, Nat.le_refl _, ht.sub ⟨rfl, rfl, rfl, rfl, rfl, rfl, rfl, rfl, rfl, rfl, rfl, rfl, rfl, rfl, rfl, rfl, rfl, rfl, rfl, rfl, trivial⟩, (hm.pick [0, 1, 2, 3, 4] rfl (by decide)).pickφ [2, 1, 0] rfl⟩ ?_
            clear H ht hm
            intro q14020 a w hJ
            obtain ⟨ls1_1, xs1_3, vss1_2, H, hqq14020, ht, hm⟩ := hJ
            cases q14020 with
            | zero => cases H
            | succ q14020 =>
            rw [spec_FullCliques.l1] at H
            refine wp_seq ?_
            refine wp_seq ?_
            refine wpr ?_
            refine wpl rfl rfl ht (ev_move ht rfl rfl) ?_
            intro a ht
            refine wpl rfl rfl ht (ev_cmp ht rfl rfl rfl rfl) ?_
            intro a ht
            refine wpl rfl rfl ht (ev_move ht rfl rfl) ?_
            intro a ht
            by_cases h14021 : xs1_3 > 0
            · replace H := ite_yes h14021 H
              refine wpl_yes rfl ht rfl ((decide_eq_true h14021)) ?_
              refine wpl rfl rfl ht (ev_move ht rfl rfl) ?_
              intro a ht
              refine wpl_yes rfl ht rfl ((decide_eq_true h14021)) ?_
              refine wpl rfl rfl ht (ev_move ht rfl rfl) ?_
              intro a ht
              refine wpl_yes rfl ht rfl ((decide_eq_true h14021)) ?_
              refine wpl rfl rfl ht (ev_move ht rfl rfl) ?_
              intro a ht
              refine wpl_yes rfl ht rfl ((decide_eq_true h14021)) ?_
              refine wpl rfl rfl ht (ev_arith ht rfl rfl rfl rfl) ?_
              intro a ht
              refine wpl_yes rfl ht rfl ((decide_eq_true h14021)) ?_
              obtain ⟨l14022, el14022, H⟩ := bind_get H
              refine wpl rfl rfl ht (ev_index_rows ht rfl rfl rfl so_49 (hm.rowsOf 3 2 rfl rfl) el14022) ?_
              intro a ht
              refine wpl_yes rfl ht rfl ((decide_eq_true h14021)) ?_
              obtain ⟨A14023, c14024, m14025, hv14026, hI⟩ := rowsAt_get (hm.rowsOf 3 2 rfl rfl) el14022
              refine wpl rfl rfl ht (ev_load ht rfl rfl sc_25 (RowsAt.cell (hm.rowsOf 3 2 rfl rfl) hv14026)) ?_
              intro a ht
              replace hm : Ms _ _ _ _ (IntsAt A14023 c14024 m14025 l14022 :: _) w := hm.addφ ((hm.ro 2 rfl).mono fun w h => allInts_at h hv14026 el14022)
              clear hI
              refine wpl_yes rfl ht rfl ((decide_eq_true h14021)) ?_
              obtain ⟨t14027, et14027, H⟩ := bind_get H
              have hcall := spec_l02Before.calls q14020 _ _ A14012 c14013 m14014 A14023 c14024 m14025 t14011 l14022 _ ((fun (hq : Ms _ _ _ ([] ++ [.vec A14015 1 25 1 1 ([.slice A14012 m14014 c14013]), .vec A2507 c2508 2 1 m2509 (ints t2506), .vec A9507 c9508 2 1 m9509 (ints t9506), .vec A14016 c14017 25 1 m14018 vss1_2, .blk b1 28 (Col.cells x)]) _ _) => hq.lend (φp := [IntsAt A14012 c14013 m14014 t14011, IntsAt A14023 c14024 m14025 l14022]) (allRO_cons (hq.lendFact 1 rfl) (allRO_cons (hq.lendFact 0 rfl) (allRO_nil)))) (hm.pick (own' := [] ++ [.vec A14015 1 25 1 1 ([.slice A14012 m14014 c14013]), .vec A2507 c2508 2 1 m2509 (ints t2506), .vec A9507 c9508 2 1 m9509 (ints t9506), .vec A14016 c14017 25 1 m14018 vss1_2, .blk b1 28 (Col.cells x)]) [0, 1, 2, 3, 4] rfl (by decide))) et14027
              refine wpl_call _ rfl rfl ht rfl rfl rfl rfl can_94 hcall ?_
              clear hcall
              rintro _ w ⟨rfl, hpost⟩ a ht
              replace hm := (hm.pick (own' := [] ++ [.vec A14015 1 25 1 1 ([.slice A14012 m14014 c14013]), .vec A2507 c2508 2 1 m2509 (ints t2506), .vec A9507 c9508 2 1 m9509 (ints t9506), .vec A14016 c14017 25 1 m14018 vss1_2, .blk b1 28 (Col.cells x)]) [0, 1, 2, 3, 4] rfl (by decide)).backL hpost
              clear hpost
              refine wpl rfl rfl ht (ev_pick_yes ht rfl rfl (decide_eq_true h14021) rfl) ?_
              intro a ht
              refine wpList_nil ?_
              refine then_normal ?_
              by_cases h14028 : t14027 = true
              · replace H := ite_yes h14028 H
                refine wpc_yes ht rfl h14028 ?_
                refine wp_skip ?_
                refine then_normal ?_
                refine wp_block ?_
                refine wp_seq ?_
                refine wpr ?_
                refine wpl rfl rfl ht (ev_move ht rfl rfl) ?_
                intro a ht
                refine wpl rfl rfl ht (ev_move ht rfl rfl) ?_
                intro a ht
                refine wpl rfl rfl ht (ev_move ht rfl rfl) ?_
                intro a ht
                refine wpl rfl rfl ht (ev_move ht rfl rfl) ?_
                intro a ht
                refine wpl rfl rfl ht (ev_arith ht rfl rfl rfl rfl) ?_
                intro a ht
                obtain ⟨l14029, el14029, H⟩ := bind_get H
                refine wpl rfl rfl ht (ev_index_rows ht rfl rfl rfl so_49 (hm.rowsOf 3 3 rfl rfl) el14029) ?_
                intro a ht
                obtain ⟨A14030, c14031, m14032, hv14033, hI⟩ := rowsAt_get (hm.rowsOf 3 3 rfl rfl) el14029
                refine wpl rfl rfl ht (ev_load ht rfl rfl sc_25 (RowsAt.cell (hm.rowsOf 3 3 rfl rfl) hv14033)) ?_
                intro a ht
                replace hm : Ms _ _ _ _ (IntsAt A14030 c14031 m14032 l14029 :: _) w := hm.addφ ((hm.ro 3 rfl).mono fun w h => allInts_at h hv14033 el14029)
                clear hI
                obtain ⟨l14034, el14034, H⟩ := bind_get H
                refine wpl rfl rfl ht (ev_index_rows ht rfl rfl rfl so_49 (hm.rowsOf 3 4 rfl rfl) el14034) ?_
                intro a ht
                replace hm : Ms _ _ _ _ (AllInts (vss1_2.set xs1_3.toNat (.slice A14030 m14032 c14031)) (ls1_1.set xs1_3.toNat l14029) :: _) w := hm.addφ (allInts_set xs1_3.toNat (hm.ro 4 rfl) (hm.ro 0 rfl))
                refine wpl_store_row 3 rfl rfl ht hm rfl rfl rfl sz1_25 rfl (hm.rowsOf 3 5 rfl rfl) el14034 ?_
                intro a ht w hm
                refine wpList_nil ?_
                refine then_normal ?_
                refine wpr ?_
                refine wpl rfl rfl ht (ev_move ht rfl rfl) ?_
                intro a ht
                refine wpl rfl rfl ht (ev_arith ht rfl rfl rfl rfl) ?_
                intro a ht
                refine wpl rfl rfl ht (ev_assign ht rfl rfl) ?_
                intro a ht
                refine wpList_nil ?_
                refine blk_normal ?_
                exact then_normal ⟨q14020, by omega, (ls1_1.set xs1_3.toNat l14029), (w64 (xs1_3 - 1)), (vss1_2.set xs1_3.toNat (.slice A14030 m14032 c14031)), H, by omega, ht.sub ⟨rfl, rfl, rfl, rfl, rfl, rfl, rfl, rfl, rfl, rfl, rfl, rfl, rfl, rfl, rfl, rfl, rfl, rfl, rfl, rfl, trivial⟩, (hm.pick [0, 1, 2, 3, 4] rfl (by decide)).pickφ [3, 4, 0] rfl⟩
              · replace H := ite_no h14028 H
                refine wpc_no ht rfl (Bool.eq_false_iff.mpr h14028) ?_
                refine wp_exit ?_
                refine then_exit ?_
                refine then_exit ?_
                refine blk_hit ?_
                refine then_normal ?_
                refine wpr ?_
                refine wpl rfl rfl ht (ev_move ht rfl rfl) ?_
                intro a ht
                refine wpl rfl rfl ht (ev_move ht rfl rfl) ?_
                intro a ht
                refine wpl rfl rfl ht (ev_move ht rfl rfl) ?_
                intro a ht
                obtain ⟨l14036, el14036, H⟩ := bind_get H
                refine wpl rfl rfl ht (ev_index_rows ht rfl rfl rfl so_49 (hm.rowsOf 3 3 rfl rfl) el14036) ?_
                intro a ht
                replace hm : Ms _ _ _ _ (AllInts (vss1_2.set xs1_3.toNat (.slice A14012 m14014 c14013)) (ls1_1.set xs1_3.toNat t14011) :: _) w := hm.addφ (allInts_set xs1_3.toNat (hm.ro 3 rfl) (hm.ro 1 rfl))
                refine wpl_store_row 3 rfl rfl ht hm rfl rfl rfl sz1_25 rfl (hm.rowsOf 3 4 rfl rfl) el14036 ?_
                intro a ht w hm
                refine wpList_nil ?_
                refine blk_normal ?_
                refine then_normal ?_
                refine wpr ?_
                refine wpl rfl rfl ht (ev_move ht rfl rfl) ?_
                intro a ht
                refine wpl rfl rfl ht (ev_arith ht rfl rfl rfl rfl) ?_
                intro a ht
                refine wpl rfl rfl ht (ev_assign ht rfl rfl) ?_
                intro a ht
                refine wpList_nil ?_
                exact then_normal ⟨q14020, by omega, (ls1_1.set xs1_3.toNat t14011), (w64 (xs0_6 + 1)), A14016, c14017, m14018, (vss1_2.set xs1_3.toNat (.slice A14012 m14014 c14013)), H, by omega, ht.sub ⟨rfl, rfl, rfl, rfl, rfl, trivial⟩, (hm.pick [1, 2, 3, 4] rfl (by decide)).pickφ [0] rfl⟩
            · replace H := ite_no h14021 H
              refine wpl_no rfl rfl ht rfl (by rw [(decide_eq_false h14021)]; decide) ?_
              intro a ht
              refine wpl_no rfl rfl ht rfl (by rw [(decide_eq_false h14021)]; decide) ?_
              intro a ht
              refine wpl_no rfl rfl ht rfl (by rw [(decide_eq_false h14021)]; decide) ?_
              intro a ht
              refine wpl_no rfl rfl ht rfl (by rw [(decide_eq_false h14021)]; decide) ?_
              intro a ht
              refine wpl_no rfl rfl ht rfl (by rw [(decide_eq_false h14021)]; decide) ?_
              intro a ht
              refine wpl_no rfl rfl ht rfl (by rw [(decide_eq_false h14021)]; decide) ?_
              intro a ht
              refine wpl_no rfl rfl ht rfl (by rw [(decide_eq_false h14021)]; decide) ?_
              intro a ht
              refine wpl rfl rfl ht (ev_pick_no ht rfl rfl (decide_eq_false h14021) rfl) ?_
              intro a ht
              refine wpList_nil ?_
              refine then_normal ?_
              refine wpc_no ht rfl rfl ?_
              refine wp_exit ?_
              refine then_exit ?_
              refine then_exit ?_
              refine blk_hit ?_
              refine then_normal ?_
              refine wpr ?_
              refine wpl rfl rfl ht (ev_move ht rfl rfl) ?_
              intro a ht
              refine wpl rfl rfl ht (ev_move ht rfl rfl) ?_
              intro a ht
              refine wpl rfl rfl ht (ev_move ht rfl rfl) ?_
              intro a ht
              obtain ⟨l14038, el14038, H⟩ := bind_get H
              refine wpl rfl rfl ht (ev_index_rows ht rfl rfl rfl so_49 (hm.rowsOf 3 2 rfl rfl) el14038) ?_
              intro a ht
              replace hm : Ms _ _ _ _ (AllInts (vss1_2.set xs1_3.toNat (.slice A14012 m14014 c14013)) (ls1_1.set xs1_3.toNat t14011) :: _) w := hm.addφ (allInts_set xs1_3.toNat (hm.ro 2 rfl) (hm.ro 0 rfl))
              refine wpl_store_row 3 rfl rfl ht hm rfl rfl rfl sz1_25 rfl (hm.rowsOf 3 3 rfl rfl) el14038 ?_
              intro a ht w hm
              refine wpList_nil ?_
              refine blk_normal ?_
              refine then_normal ?_
              refine wpr ?_
              refine wpl rfl rfl ht (ev_move ht rfl rfl) ?_
              intro a ht
              refine wpl rfl rfl ht (ev_arith ht rfl rfl rfl rfl) ?_
              intro a ht
              refine wpl rfl rfl ht (ev_assign ht rfl rfl) ?_
              intro a ht
              refine wpList_nil ?_
              exact then_normal ⟨q14020, by omega, (ls1_1.set xs1_3.toNat t14011), (w64 (xs0_6 + 1)), A14016, c14017, m14018, (vss1_2.set xs1_3.toNat (.slice A14012 m14014 c14013)), H, by omega, ht.sub ⟨rfl, rfl, rfl, rfl, rfl, trivial⟩, (hm.pick [1, 2, 3, 4] rfl (by decide)).pickφ [0] rfl⟩
          · replace H := ite_no h14009 H
            refine wpc_no ht rfl (decide_eq_false h14009) ?_
            refine wp_exit ?_
            refine then_exit ?_
            refine then_exit ?_
            refine blk_hit ?_
            refine then_normal ?_
            refine wp_seq ?_
            refine wpr ?_
            refine wpl rfl rfl ht (ev_move ht rfl rfl) ?_
            intro a ht
            refine wpl rfl rfl ht (ev_assign ht rfl rfl) ?_
            intro a ht
            refine wpl rfl rfl ht (ev_assign ht rfl rfl) ?_
            intro a ht
            refine wpList_nil ?_
            refine then_normal ?_
            refine wp_ret ?_
            have hres := ht.res (P := Try.prog) (w := w) (rs := [.tmp 4, .tmp 5]) (vs := [.slice As0_1 ms0_3 cs0_2, .int .i64 0]) (.tmp rfl (.tmp rfl .nil))
            obtain rfl := Option.some.inj H
            exact leave ht rfl hres ⟨As0_1, cs0_2, ms0_3, vss0_5, rfl, ((hm.pick [2] rfl (by decide)).pickφ [0] rfl).post fun _ h => h⟩

end Go.Proofs.Ytdpamdedomkomaa.G
