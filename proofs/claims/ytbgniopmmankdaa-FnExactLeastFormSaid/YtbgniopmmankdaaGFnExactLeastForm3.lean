/- What each Go function computes, as a Lean function, and the proof that it does: written by a program of this session (wip/gen), part 3. -/
import Derived.Test.YtbgniopmmankdaaGFnExactLeastForm2
namespace Go.Proofs.Ytbgniopmmankdaa.G
open Go Go.RowKit Go.Proofs.Ytbgniopmmankdaa.K
set_option linter.unusedVariables false
set_option linter.unusedSimpArgs false

/-! ### spec_LeastForm: function 10 (loop.example/g01362/spec.LeastForm) -/
def spec_LeastForm.l0 : Nat → Col → List (List Int) → Col → Int → Option (Col × Int)
  | 0, _, _, _, _ => none
  | q9006 + 1, x, t4506, xs0_1, xs0_2 => if xs0_2 < (t4506.length : Int) then ((getR t4506 xs0_2).bind fun l12508 => (spec_l01Renamed.f q9006 x l12508).bind fun t14508 => (spec_l06Less.f q9006 t14508 xs0_1).bind fun t18008 => if t18008 = true then (spec_LeastForm.l0 q9006 x t4506 t14508 (w64 (xs0_2 + 1))) else (spec_LeastForm.l0 q9006 x t4506 xs0_1 (w64 (xs0_2 + 1)))) else (some (xs0_1, 0))
def spec_LeastForm.f (k : Nat) (x : Col) : Option (Col × Int) := (spec_l01Is.f k x).bind fun t3 => if t3 = true then (if x.p > 6 then (some (Col.zero, 3)) else ((spec_l06Orders.f k ([] : List Int) x.p).bind fun t4506 => spec_LeastForm.l0 k x t4506 x 0)) else (some (Col.zero, 1))
set_option maxRecDepth 100000 in
set_option maxHeartbeats 1000000 in
theorem spec_LeastForm.calls (k : Nat) (X : List Nat) (w0 : World)  (x : Col) (r : Col × Int)
    (hp : Pre X w0 [] []) (H : spec_LeastForm.f k x = some r) :
    Calls Try.prog 10 [.agg (Col.cells x).toArray].toArray w0 (Ret fun v w => v = .tuple [.agg (Col.cells r.1).toArray, .int .i64 r.2].toArray ∧ Post X (fps []) w0 [] [] w) := by
  unfold spec_LeastForm.f at H
  refine enterM (n := 40) hp Try.func10 rfl rfl (Nat.le_of_ble_eq_true rfl) fun a w ht hm => ?_
  refine wp_seq ?_
  refine wpr ?_
  refine wpl_box rfl rfl ht hm rfl rfl rfl ?_
  intro b1 a ht w hm
  refine wpl_alloc rfl rfl ht hm rfl zo_27 ?_
  intro b2 a ht w hm
  refine wpl rfl rfl ht (ev_assign ht rfl rfl) ?_
  intro a ht
  refine wpList_nil ?_
  refine then_normal ?_
  refine wp_seq ?_
  refine wp_block ?_
  refine wp_seq ?_
  refine wpr ?_
  refine wpl rfl rfl ht (ev_load_agg ht rfl rfl (ag_27.trans (by first | rw [Col.length_cells] | rfl)) (hm.blk_all 1 rfl)) ?_
  intro a ht
  obtain ⟨t3, et3, H⟩ := bind_get H
  have hcall := spec_l01Is.calls k _ _ x _ ((fun (hq : Ms _ _ _ ([] ++ [.blk b2 27 (Col.cells Col.zero), .blk b1 27 (Col.cells x)]) _ _) => hq.lend (φp := []) (allRO_nil)) (hm.pick (own' := [] ++ [.blk b2 27 (Col.cells Col.zero), .blk b1 27 (Col.cells x)]) [0, 1] rfl (by decide))) et3
  refine wpl_call _ rfl rfl ht rfl rfl rfl rfl can_20 hcall ?_
  clear hcall
  rintro _ w ⟨rfl, hpost⟩ a ht
  replace hm := (hm.pick (own' := [] ++ [.blk b2 27 (Col.cells Col.zero), .blk b1 27 (Col.cells x)]) [0, 1] rfl (by decide)).backL hpost
  clear hpost
  refine wpl rfl rfl ht (ev_not ht rfl rfl) ?_
  intro a ht
  refine wpl rfl rfl ht (ev_assign ht rfl rfl) ?_
  intro a ht
  refine wpList_nil ?_
  refine then_normal ?_
  by_cases h4 : t3 = true
  · replace H := ite_yes h4 H
    refine wpc_no ht rfl (not_t h4) ?_
    refine wp_seq ?_
    refine wpr ?_
    refine wpl rfl rfl ht (ev_fieldAddr ht rfl rfl fo_27_0) ?_
    intro a ht
    refine wpl rfl rfl ht (ev_load ht rfl rfl sc_2 (hm.blk_cell 1 rfl rfl)) ?_
    intro a ht
    refine wpl rfl rfl ht (ev_cmp ht rfl rfl rfl rfl) ?_
    intro a ht
    refine wpl rfl rfl ht (ev_assign ht rfl rfl) ?_
    intro a ht
    refine wpList_nil ?_
    refine then_normal ?_
    by_cases h5 : x.p > 6
    · replace H := ite_yes h5 H
      refine wpc_yes ht rfl (decide_eq_true h5) ?_
      refine wp_seq ?_
      refine wpr ?_
      refine wpl rfl rfl ht (ev_build (vs := Col.cells Col.zero) ht rfl bi_27 rfl rfl) ?_
      intro a ht
      refine wpl_store_whole 0 rfl rfl ht hm rfl rfl rfl (szn_27.trans (by first | rw [Col.length_cells] | rfl)) rfl (by simp only [Col.length_cells]) (Col.cells_one _) ?_
      intro a ht w hm
      refine wpl rfl rfl ht (ev_assign ht rfl rfl) ?_
      intro a ht
      refine wpList_nil ?_
      refine then_normal ?_
      refine wp_ret ?_
      refine blk_ret ?_
      refine then_ret ?_
      have hres := ht.res (P := Try.prog) (w := w) (rs := [.cell 2 27, .tmp 3]) (vs := [.agg (Col.cells Col.zero).toArray, .int .i64 3]) (.agg rfl (ag_27.trans (by first | rw [Col.length_cells] | rfl)) (hm.blk_all 0 rfl) (.tmp rfl .nil))
      obtain rfl := Option.some.inj H
      exact leave ht rfl hres ⟨rfl, ((hm.pick [] rfl (by decide)).pickφ [] rfl).post fun _ h => h⟩
    · replace H := ite_no h5 H
      refine wpc_no ht rfl (decide_eq_false h5) ?_
      refine wp_skip ?_
      refine blk_normal ?_
      refine then_normal ?_
      refine wp_seq ?_
      refine wph_begin (fun w => Ms X (fps []) w0 [.blk b2 27 (Col.cells Col.zero), .blk b1 27 (Col.cells x)] [] w) mixed ?_
      replace hm := hm.drew
      have hS : Ms X (fps []) w0 [.blk b2 27 (Col.cells Col.zero), .blk b1 27 (Col.cells x)] [] w.drew := (hm.pick [0, 1] rfl (by decide)).pickφ [] rfl
      generalize w.drew = w at hm hS ⊢
      refine wph_take (i := 0) rfl (by kernel_rfl) (by kernel_rfl) (by kernel_rfl) (fun _ _ _ h => h) rfl ht hS (wanted_plain rfl) (fun w hm => ev_load_agg ht rfl rfl (ag_27.trans (by first | rw [Col.length_cells] | rfl)) (hm.blk_all 1 rfl)) ?_
      intro a ht
      refine wph_take (i := 2) rfl (by kernel_rfl) (by kernel_rfl) (by kernel_rfl) (fun _ _ _ h => h) rfl ht hS (wanted_plain rfl) (fun w hm => ev_fieldAddr ht rfl rfl fo_27_0) ?_
      intro a ht
      refine wph_take (i := 3) rfl (by kernel_rfl) (by kernel_rfl) (by kernel_rfl) (fun _ _ _ h => h) rfl ht hS (wanted_plain rfl) (fun w hm => ev_load ht rfl rfl sc_2 (hm.blk_cell 1 rfl rfl)) ?_
      intro a ht
      refine wph_two (i := 1) (j := 5) (by kernel_rfl) ?_ ?_ 
      · refine wph_step rfl ?_
        refine wpl_build_ints (l := ([] : List Int)) rfl rfl ht hm rfl und_43 zo_2 sz1_2 (by decide) rfl rfl rfl ?_
        intro A1506 a ht w hm
        have hS : Ms X (fps []) w0 [.blk b2 27 (Col.cells Col.zero), .blk b1 27 (Col.cells x)] [] w := (hm.pick [1, 2] rfl (by decide)).pickφ [] rfl
        refine wpList_nil (qn ⟨hS, ?_⟩)
        refine wph_two (i := 4) (j := 5) (by kernel_rfl) ?_ ?_ 
        · refine wph_step rfl ?_
          replace hm : Ms _ _ _ _ (IntsAt A1506 0 0 ([] : List Int) :: _) w := hm.shutVec 0 rfl
          obtain ⟨t4506, et4506, H⟩ := bind_get H
          have hcall := spec_l06Orders.calls k _ _ A1506 0 0 ([] : List Int) x.p _ ((hm.pick (own' := [] ++ [.blk b2 27 (Col.cells Col.zero), .blk b1 27 (Col.cells x)]) [0, 1] rfl (by decide)).give (passed := []) (rest := [.blk b2 27 (Col.cells Col.zero), .blk b1 27 (Col.cells x)]) (φp := [IntsAt A1506 0 0 ([] : List Int)]) [0] rfl) et4506
          refine wpl_call _ rfl rfl ht rfl rfl rfl rfl can_27 hcall ?_
          clear hcall
          rintro _ w ⟨A4507, c4508, m4509, vs4510, rfl, hpost⟩ a ht
          replace hm := (hm.pick (own' := [] ++ [.blk b2 27 (Col.cells Col.zero), .blk b1 27 (Col.cells x)]) [0, 1] rfl (by decide)).back hpost
          clear hpost
          have hS : Ms X (fps []) w0 [.blk b2 27 (Col.cells Col.zero), .blk b1 27 (Col.cells x)] [] w := (hm.pick [1, 2] rfl (by decide)).pickφ [] rfl
          refine wpList_nil (qn ⟨hS, ?_⟩)
          refine wph_one (i := 5) (by kernel_rfl) (wph_step rfl ?_)
          refine wpl_alloc rfl rfl ht hm rfl zo_27 ?_
          intro b5506 a ht w hm
          have hS : Ms X (fps []) w0 [.blk b2 27 (Col.cells Col.zero), .blk b1 27 (Col.cells x)] [] w := (hm.pick [2, 3] rfl (by decide)).pickφ [] rfl
          refine wpList_nil (qn ⟨hS, ?_⟩)
          refine wph_one (i := 6) (by kernel_rfl) (wph_step rfl ?_)
          refine wpl_store_whole 0 rfl rfl ht hm rfl rfl rfl (szn_27.trans (by first | rw [Col.length_cells] | rfl)) rfl (by simp only [Col.length_cells]) (Col.cells_one _) ?_
          intro a ht w hm
          have hS : Ms X (fps []) w0 [.blk b2 27 (Col.cells Col.zero), .blk b1 27 (Col.cells x)] [] w := (hm.pick [2, 3] rfl (by decide)).pickφ [] rfl
          refine wpList_nil (qn ⟨hS, ?_⟩)
          refine wph_take (i := 7) rfl (by kernel_rfl) (by kernel_rfl) (by kernel_rfl) (fun _ _ _ h => h) rfl ht hS (wanted_plain rfl) (fun w hm => ev_assign ht rfl rfl) ?_
          intro a ht
          refine wph_done (by kernel_rfl) ?_
          replace hm := hm.pick (own' := [.vec A4507 c4508 43 1 m4509 vs4510, .blk b5506 27 (Col.cells x), .blk b2 27 (Col.cells Col.zero), .blk b1 27 (Col.cells x)]) [1, 0, 2, 3] rfl (by decide)
          refine then_normal ?_
          refine wp_seq ?_
          refine wp_seq ?_
          refine wpr ?_
          refine wpl rfl rfl ht (ev_assign ht rfl rfl) ?_
          intro a ht
          refine wpList_nil ?_
          refine then_normal ?_
          refine wp_block ?_
          refine wpLoop (fun q a w => ∃ (xs0_1 : Col) (xs0_2 : Int), spec_LeastForm.l0 q x t4506 xs0_1 xs0_2 = some r ∧ q ≤ k ∧ Tm 40 [(1, .pointer (some ⟨b1, 0, none⟩)), (2, .pointer (some ⟨b2, 0, none⟩)), (3, .int .i64 0), (4, .pointer (some ⟨b5506, 0, none⟩)), (5, .slice A4507 m4509 c4508), (6, .int .i64 xs0_2)] a ∧ Ms X (fps []) w0 [.vec A4507 c4508 43 1 m4509 vs4510, .blk b5506 27 (Col.cells xs0_1), .blk b2 27 (Col.cells Col.zero), .blk b1 27 (Col.cells x)] [AllInts vs4510 t4506] w) (k0 := k) ⟨x, 0, H, Nat.le_refl _, ht.sub ⟨rfl, rfl, rfl, rfl, rfl, rfl, trivial⟩, (hm.pick [0, 1, 2, 3] rfl (by decide)).pickφ [0] rfl⟩ ?_
          clear H ht hm
          intro q9006 a w hJ
          obtain ⟨xs0_1, xs0_2, H, hqq9006, ht, hm⟩ := hJ
          cases q9006 with
          | zero => cases H
          | succ q9006 =>
          rw [spec_LeastForm.l0] at H
          refine wp_seq ?_
          refine wp_seq ?_
          refine wpr ?_
          refine wpl rfl rfl ht (ev_move ht rfl rfl) ?_
          intro a ht
          refine wpl rfl rfl ht (ev_move ht rfl rfl) ?_
          intro a ht
          refine wpl rfl rfl ht (ev_len_rows ht rfl rfl und_35 (hm.rowsOf 0 0 rfl rfl)) ?_
          intro a ht
          refine wpl rfl rfl ht (ev_cmp ht rfl rfl rfl rfl) ?_
          intro a ht
          refine wpList_nil ?_
          refine then_normal ?_
          by_cases h9007 : xs0_2 < (t4506.length : Int)
          · replace H := ite_yes h9007 H
            refine wpc_yes ht rfl (decide_eq_true h9007) ?_
            refine wp_skip ?_
            refine then_normal ?_
            refine wp_seq ?_
            refine wp_block ?_
            refine wp_seq ?_
            refine wph_begin (fun w => Ms X (fps []) w0 [.vec A4507 c4508 43 1 m4509 vs4510, .blk b5506 27 (Col.cells xs0_1), .blk b2 27 (Col.cells Col.zero), .blk b1 27 (Col.cells x)] [AllInts vs4510 t4506] w) mixed ?_
            replace hm := hm.drew
            have hS : Ms X (fps []) w0 [.vec A4507 c4508 43 1 m4509 vs4510, .blk b5506 27 (Col.cells xs0_1), .blk b2 27 (Col.cells Col.zero), .blk b1 27 (Col.cells x)] [AllInts vs4510 t4506] w.drew := (hm.pick [0, 1, 2, 3] rfl (by decide)).pickφ [0] rfl
            generalize w.drew = w at hm hS ⊢
            refine wph_take (i := 0) rfl (by kernel_rfl) (by kernel_rfl) (by kernel_rfl) (fun _ _ _ h => h) rfl ht hS (wanted_plain rfl) (fun w hm => ev_load_agg ht rfl rfl (ag_27.trans (by first | rw [Col.length_cells] | rfl)) (hm.blk_all 3 rfl)) ?_
            intro a ht
            refine wph_take (i := 1) rfl (by kernel_rfl) (by kernel_rfl) (by kernel_rfl) (fun _ _ _ h => h) rfl ht hS (wanted_plain rfl) (fun w hm => ev_move ht rfl rfl) ?_
            intro a ht
            refine wph_take (i := 2) rfl (by kernel_rfl) (by kernel_rfl) (by kernel_rfl) (fun _ _ _ h => h) rfl ht hS (wanted_plain rfl) (fun w hm => ev_move ht rfl rfl) ?_
            intro a ht
            obtain ⟨l12508, el12508, H⟩ := bind_get H
            refine wph_take (i := 3) rfl (by kernel_rfl) (by kernel_rfl) (by kernel_rfl) (fun _ _ _ h => h) rfl ht hS (wanted_plain rfl) (fun w hm => ev_index_rows ht rfl rfl rfl so_35 (hm.rowsOf 0 0 rfl rfl) el12508) ?_
            intro a ht
            obtain ⟨A13508, c13509, m13510, hv13511, hI⟩ := rowsAt_get (hm.rowsOf 0 0 rfl rfl) el12508
            refine wph_take (i := 4) rfl (by kernel_rfl) (by kernel_rfl) (by kernel_rfl) (fun _ _ _ h => h) rfl ht hS (wanted_plain rfl) (fun w hm => ev_load ht rfl rfl sc_43 (RowsAt.cell (hm.rowsOf 0 0 rfl rfl) hv13511)) ?_
            intro a ht
            replace hm : Ms _ _ _ _ (IntsAt A13508 c13509 m13510 l12508 :: _) w := hm.addφ ((hm.ro 0 rfl).mono fun w h => allInts_at h hv13511 el12508)
            clear hI
            refine wph_two (i := 5) (j := 6) (by kernel_rfl) ?_ ?_ 
            · refine wph_step rfl ?_
              obtain ⟨t14508, et14508, H⟩ := bind_get H
              have hcall := spec_l01Renamed.calls q9006 _ _ A13508 c13509 m13510 x l12508 _ ((fun (hq : Ms _ _ _ ([] ++ [.vec A4507 c4508 43 1 m4509 vs4510, .blk b5506 27 (Col.cells xs0_1), .blk b2 27 (Col.cells Col.zero), .blk b1 27 (Col.cells x)]) _ _) => hq.lend (φp := [IntsAt A13508 c13509 m13510 l12508]) (allRO_cons (hq.lendFact 0 rfl) (allRO_nil))) (hm.pick (own' := [] ++ [.vec A4507 c4508 43 1 m4509 vs4510, .blk b5506 27 (Col.cells xs0_1), .blk b2 27 (Col.cells Col.zero), .blk b1 27 (Col.cells x)]) [0, 1, 2, 3] rfl (by decide))) et14508
              refine wpl_call _ rfl rfl ht rfl rfl rfl rfl can_28 hcall ?_
              clear hcall
              rintro _ w ⟨rfl, hpost⟩ a ht
              replace hm := (hm.pick (own' := [] ++ [.vec A4507 c4508 43 1 m4509 vs4510, .blk b5506 27 (Col.cells xs0_1), .blk b2 27 (Col.cells Col.zero), .blk b1 27 (Col.cells x)]) [0, 1, 2, 3] rfl (by decide)).backL hpost
              clear hpost
              have hS : Ms X (fps []) w0 [.vec A4507 c4508 43 1 m4509 vs4510, .blk b5506 27 (Col.cells xs0_1), .blk b2 27 (Col.cells Col.zero), .blk b1 27 (Col.cells x)] [AllInts vs4510 t4506] w := (hm.pick [0, 1, 2, 3] rfl (by decide)).pickφ [1] rfl
              refine wpList_nil (qn ⟨hS, ?_⟩)
              refine wph_one (i := 6) (by kernel_rfl) (wph_step rfl ?_)
              refine wpl_alloc rfl rfl ht hm rfl zo_27 ?_
              intro b15508 a ht w hm
              have hS : Ms X (fps []) w0 [.vec A4507 c4508 43 1 m4509 vs4510, .blk b5506 27 (Col.cells xs0_1), .blk b2 27 (Col.cells Col.zero), .blk b1 27 (Col.cells x)] [AllInts vs4510 t4506] w := (hm.pick [1, 2, 3, 4] rfl (by decide)).pickφ [1] rfl
              refine wpList_nil (qn ⟨hS, ?_⟩)
              refine wph_one (i := 7) (by kernel_rfl) (wph_step rfl ?_)
              refine wpl_store_whole 0 rfl rfl ht hm rfl rfl rfl (szn_27.trans (by first | rw [Col.length_cells] | rfl)) rfl (by simp only [Col.length_cells]) (Col.cells_one _) ?_
              intro a ht w hm
              have hS : Ms X (fps []) w0 [.vec A4507 c4508 43 1 m4509 vs4510, .blk b5506 27 (Col.cells xs0_1), .blk b2 27 (Col.cells Col.zero), .blk b1 27 (Col.cells x)] [AllInts vs4510 t4506] w := (hm.pick [1, 2, 3, 4] rfl (by decide)).pickφ [1] rfl
              refine wpList_nil (qn ⟨hS, ?_⟩)
              refine wph_done (by kernel_rfl) ?_
              refine then_normal ?_
              refine wp_seq ?_
              refine wpr ?_
              refine wpl rfl rfl ht (ev_load_agg ht rfl rfl (ag_27.trans (by first | rw [Col.length_cells] | rfl)) (hm.blk_all 0 rfl)) ?_
              intro a ht
              refine wpl rfl rfl ht (ev_load_agg ht rfl rfl (ag_27.trans (by first | rw [Col.length_cells] | rfl)) (hm.blk_all 2 rfl)) ?_
              intro a ht
              obtain ⟨t18008, et18008, H⟩ := bind_get H
              have hcall := spec_l06Less.calls q9006 _ _ t14508 xs0_1 _ ((fun (hq : Ms _ _ _ ([] ++ [.blk b15508 27 (Col.cells t14508), .vec A4507 c4508 43 1 m4509 vs4510, .blk b5506 27 (Col.cells xs0_1), .blk b2 27 (Col.cells Col.zero), .blk b1 27 (Col.cells x)]) _ _) => hq.lend (φp := []) (allRO_nil)) (hm.pick (own' := [] ++ [.blk b15508 27 (Col.cells t14508), .vec A4507 c4508 43 1 m4509 vs4510, .blk b5506 27 (Col.cells xs0_1), .blk b2 27 (Col.cells Col.zero), .blk b1 27 (Col.cells x)]) [0, 1, 2, 3, 4] rfl (by decide))) et18008
              refine wpl_call _ rfl rfl ht rfl rfl rfl rfl can_29 hcall ?_
              clear hcall
              rintro _ w ⟨rfl, hpost⟩ a ht
              replace hm := (hm.pick (own' := [] ++ [.blk b15508 27 (Col.cells t14508), .vec A4507 c4508 43 1 m4509 vs4510, .blk b5506 27 (Col.cells xs0_1), .blk b2 27 (Col.cells Col.zero), .blk b1 27 (Col.cells x)]) [0, 1, 2, 3, 4] rfl (by decide)).backL hpost
              clear hpost
              refine wpList_nil ?_
              refine then_normal ?_
              by_cases h18009 : t18008 = true
              · replace H := ite_yes h18009 H
                refine wpc_yes ht rfl h18009 ?_
                refine wpr ?_
                refine wpl rfl rfl ht (ev_load_agg ht rfl rfl (ag_27.trans (by first | rw [Col.length_cells] | rfl)) (hm.blk_all 0 rfl)) ?_
                intro a ht
                refine wpl_store_whole 2 rfl rfl ht hm rfl rfl rfl (szn_27.trans (by first | rw [Col.length_cells] | rfl)) rfl (by simp only [Col.length_cells]) (Col.cells_one _) ?_
                intro a ht w hm
                refine wpList_nil ?_
                refine blk_normal ?_
                refine then_normal ?_
                refine wpr ?_
                refine wpl rfl rfl ht (ev_move ht rfl rfl) ?_
                intro a ht
                refine wpl rfl rfl ht (ev_arith ht rfl rfl rfl rfl) ?_
                intro a ht
                refine wpl rfl rfl ht (ev_assign ht rfl rfl) ?_
                intro a ht
                refine wpList_nil ?_
                exact then_normal ⟨q9006, by omega, t14508, (w64 (xs0_2 + 1)), H, by omega, ht.sub ⟨rfl, rfl, rfl, rfl, rfl, rfl, trivial⟩, (hm.pick [1, 2, 3, 4] rfl (by decide)).pickφ [1] rfl⟩
              · replace H := ite_no h18009 H
                refine wpc_no ht rfl (Bool.eq_false_iff.mpr h18009) ?_
                refine wp_skip ?_
                refine blk_normal ?_
                refine then_normal ?_
                refine wpr ?_
                refine wpl rfl rfl ht (ev_move ht rfl rfl) ?_
                intro a ht
                refine wpl rfl rfl ht (ev_arith ht rfl rfl rfl rfl) ?_
                intro a ht
                refine wpl rfl rfl ht (ev_assign ht rfl rfl) ?_
                intro a ht
                refine wpList_nil ?_
                exact then_normal ⟨q9006, by omega, xs0_1, (w64 (xs0_2 + 1)), H, by omega, ht.sub ⟨rfl, rfl, rfl, rfl, rfl, rfl, trivial⟩, (hm.pick [1, 2, 3, 4] rfl (by decide)).pickφ [1] rfl⟩
            · refine wph_step rfl ?_
              refine wpl_alloc rfl rfl ht hm rfl zo_27 ?_
              intro b15508 a ht w hm
              have hS : Ms X (fps []) w0 [.vec A4507 c4508 43 1 m4509 vs4510, .blk b5506 27 (Col.cells xs0_1), .blk b2 27 (Col.cells Col.zero), .blk b1 27 (Col.cells x)] [AllInts vs4510 t4506] w := (hm.pick [1, 2, 3, 4] rfl (by decide)).pickφ [1] rfl
              refine wpList_nil (qn ⟨hS, ?_⟩)
              refine wph_one (i := 5) (by kernel_rfl) (wph_step rfl ?_)
              obtain ⟨t14508, et14508, H⟩ := bind_get H
              have hcall := spec_l01Renamed.calls q9006 _ _ A13508 c13509 m13510 x l12508 _ ((fun (hq : Ms _ _ _ ([] ++ [.blk b15508 27 (Col.cells Col.zero), .vec A4507 c4508 43 1 m4509 vs4510, .blk b5506 27 (Col.cells xs0_1), .blk b2 27 (Col.cells Col.zero), .blk b1 27 (Col.cells x)]) _ _) => hq.lend (φp := [IntsAt A13508 c13509 m13510 l12508]) (allRO_cons (hq.lendFact 0 rfl) (allRO_nil))) (hm.pick (own' := [] ++ [.blk b15508 27 (Col.cells Col.zero), .vec A4507 c4508 43 1 m4509 vs4510, .blk b5506 27 (Col.cells xs0_1), .blk b2 27 (Col.cells Col.zero), .blk b1 27 (Col.cells x)]) [0, 1, 2, 3, 4] rfl (by decide))) et14508
              refine wpl_call _ rfl rfl ht rfl rfl rfl rfl can_28 hcall ?_
              clear hcall
              rintro _ w ⟨rfl, hpost⟩ a ht
              replace hm := (hm.pick (own' := [] ++ [.blk b15508 27 (Col.cells Col.zero), .vec A4507 c4508 43 1 m4509 vs4510, .blk b5506 27 (Col.cells xs0_1), .blk b2 27 (Col.cells Col.zero), .blk b1 27 (Col.cells x)]) [0, 1, 2, 3, 4] rfl (by decide)).backL hpost
              clear hpost
              have hS : Ms X (fps []) w0 [.vec A4507 c4508 43 1 m4509 vs4510, .blk b5506 27 (Col.cells xs0_1), .blk b2 27 (Col.cells Col.zero), .blk b1 27 (Col.cells x)] [AllInts vs4510 t4506] w := (hm.pick [1, 2, 3, 4] rfl (by decide)).pickφ [1] rfl
              refine wpList_nil (qn ⟨hS, ?_⟩)
              refine wph_one (i := 7) (by kernel_rfl) (wph_step rfl ?_)
              refine wpl_store_whole 0 rfl rfl ht hm rfl rfl rfl (szn_27.trans (by first | rw [Col.length_cells] | rfl)) rfl (by simp only [Col.length_cells]) (Col.cells_one _) ?_
              intro a ht w hm
              have hS : Ms X (fps []) w0 [.vec A4507 c4508 43 1 m4509 vs4510, .blk b5506 27 (Col.cells xs0_1), .blk b2 27 (Col.cells Col.zero), .blk b1 27 (Col.cells x)] [AllInts vs4510 t4506] w := (hm.pick [1, 2, 3, 4] rfl (by decide)).pickφ [1] rfl
              refine wpList_nil (qn ⟨hS, ?_⟩)
              refine wph_done (by kernel_rfl) ?_
              refine then_normal ?_
              refine wp_seq ?_
              refine wpr ?_
              refine wpl rfl rfl ht (ev_load_agg ht rfl rfl (ag_27.trans (by first | rw [Col.length_cells] | rfl)) (hm.blk_all 0 rfl)) ?_
              intro a ht
              refine wpl rfl rfl ht (ev_load_agg ht rfl rfl (ag_27.trans (by first | rw [Col.length_cells] | rfl)) (hm.blk_all 2 rfl)) ?_
              intro a ht
              obtain ⟨t18008, et18008, H⟩ := bind_get H
              have hcall := spec_l06Less.calls q9006 _ _ t14508 xs0_1 _ ((fun (hq : Ms _ _ _ ([] ++ [.blk b15508 27 (Col.cells t14508), .vec A4507 c4508 43 1 m4509 vs4510, .blk b5506 27 (Col.cells xs0_1), .blk b2 27 (Col.cells Col.zero), .blk b1 27 (Col.cells x)]) _ _) => hq.lend (φp := []) (allRO_nil)) (hm.pick (own' := [] ++ [.blk b15508 27 (Col.cells t14508), .vec A4507 c4508 43 1 m4509 vs4510, .blk b5506 27 (Col.cells xs0_1), .blk b2 27 (Col.cells Col.zero), .blk b1 27 (Col.cells x)]) [0, 1, 2, 3, 4] rfl (by decide))) et18008
              refine wpl_call _ rfl rfl ht rfl rfl rfl rfl can_29 hcall ?_
              clear hcall
              rintro _ w ⟨rfl, hpost⟩ a ht
              replace hm := (hm.pick (own' := [] ++ [.blk b15508 27 (Col.cells t14508), .vec A4507 c4508 43 1 m4509 vs4510, .blk b5506 27 (Col.cells xs0_1), .blk b2 27 (Col.cells Col.zero), .blk b1 27 (Col.cells x)]) [0, 1, 2, 3, 4] rfl (by decide)).backL hpost
              clear hpost
              refine wpList_nil ?_
              refine then_normal ?_
              by_cases h18009 : t18008 = true
              · replace H := ite_yes h18009 H
                refine wpc_yes ht rfl h18009 ?_
                refine wpr ?_
                refine wpl rfl rfl ht (ev_load_agg ht rfl rfl (ag_27.trans (by first | rw [Col.length_cells] | rfl)) (hm.blk_all 0 rfl)) ?_
                intro a ht
                refine wpl_store_whole 2 rfl rfl ht hm rfl rfl rfl (szn_27.trans (by first | rw [Col.length_cells] | rfl)) rfl (by simp only [Col.length_cells]) (Col.cells_one _) ?_
                intro a ht w hm
                refine wpList_nil ?_
                refine blk_normal ?_
                refine then_normal ?_
                refine wpr ?_
                refine wpl rfl rfl ht (ev_move ht rfl rfl) ?_
                intro a ht
                refine wpl rfl rfl ht (ev_arith ht rfl rfl rfl rfl) ?_
                intro a ht
                refine wpl rfl rfl ht (ev_assign ht rfl rfl) ?_
                intro a ht
                refine wpList_nil ?_
                exact then_normal ⟨q9006, by omega, t14508, (w64 (xs0_2 + 1)), H, by omega, ht.sub ⟨rfl, rfl, rfl, rfl, rfl, rfl, trivial⟩, (hm.pick [1, 2, 3, 4] rfl (by decide)).pickφ [1] rfl⟩
              · replace H := ite_no h18009 H
                refine wpc_no ht rfl (Bool.eq_false_iff.mpr h18009) ?_
                refine wp_skip ?_
                refine blk_normal ?_
                refine then_normal ?_
                refine wpr ?_
                refine wpl rfl rfl ht (ev_move ht rfl rfl) ?_
                intro a ht
                refine wpl rfl rfl ht (ev_arith ht rfl rfl rfl rfl) ?_
                intro a ht
                refine wpl rfl rfl ht (ev_assign ht rfl rfl) ?_
                intro a ht
                refine wpList_nil ?_
                exact then_normal ⟨q9006, by omega, xs0_1, (w64 (xs0_2 + 1)), H, by omega, ht.sub ⟨rfl, rfl, rfl, rfl, rfl, rfl, trivial⟩, (hm.pick [1, 2, 3, 4] rfl (by decide)).pickφ [1] rfl⟩
          · replace H := ite_no h9007 H
            refine wpc_no ht rfl (decide_eq_false h9007) ?_
            refine wp_exit ?_
            refine then_exit ?_
            refine then_exit ?_
            refine blk_hit ?_
            refine then_normal ?_
            refine wp_seq ?_
            refine wpr ?_
            refine wpl rfl rfl ht (ev_load_agg ht rfl rfl (ag_27.trans (by first | rw [Col.length_cells] | rfl)) (hm.blk_all 1 rfl)) ?_
            intro a ht
            refine wpl_store_whole 2 rfl rfl ht hm rfl rfl rfl (szn_27.trans (by first | rw [Col.length_cells] | rfl)) rfl (by simp only [Col.length_cells]) (Col.cells_one _) ?_
            intro a ht w hm
            refine wpl rfl rfl ht (ev_assign ht rfl rfl) ?_
            intro a ht
            refine wpList_nil ?_
            refine then_normal ?_
            refine wp_ret ?_
            have hres := ht.res (P := Try.prog) (w := w) (rs := [.cell 2 27, .tmp 3]) (vs := [.agg (Col.cells xs0_1).toArray, .int .i64 0]) (.agg rfl (ag_27.trans (by first | rw [Col.length_cells] | rfl)) (hm.blk_all 2 rfl) (.tmp rfl .nil))
            obtain rfl := Option.some.inj H
            exact leave ht rfl hres ⟨rfl, ((hm.pick [] rfl (by decide)).pickφ [] rfl).post fun _ h => h⟩
        · refine wph_step rfl ?_
          refine wpl_alloc rfl rfl ht hm rfl zo_27 ?_
          intro b5506 a ht w hm
          have hS : Ms X (fps []) w0 [.blk b2 27 (Col.cells Col.zero), .blk b1 27 (Col.cells x)] [] w := (hm.pick [2, 3] rfl (by decide)).pickφ [] rfl
          refine wpList_nil (qn ⟨hS, ?_⟩)
          refine wph_one (i := 4) (by kernel_rfl) (wph_step rfl ?_)
          replace hm : Ms _ _ _ _ (IntsAt A1506 0 0 ([] : List Int) :: _) w := hm.shutVec 1 rfl
          obtain ⟨t4506, et4506, H⟩ := bind_get H
          have hcall := spec_l06Orders.calls k _ _ A1506 0 0 ([] : List Int) x.p _ ((hm.pick (own' := [] ++ [.blk b5506 27 (Col.cells Col.zero), .blk b2 27 (Col.cells Col.zero), .blk b1 27 (Col.cells x)]) [0, 1, 2] rfl (by decide)).give (passed := []) (rest := [.blk b5506 27 (Col.cells Col.zero), .blk b2 27 (Col.cells Col.zero), .blk b1 27 (Col.cells x)]) (φp := [IntsAt A1506 0 0 ([] : List Int)]) [0] rfl) et4506
          refine wpl_call _ rfl rfl ht rfl rfl rfl rfl can_27 hcall ?_
          clear hcall
          rintro _ w ⟨A4507, c4508, m4509, vs4510, rfl, hpost⟩ a ht
          replace hm := (hm.pick (own' := [] ++ [.blk b5506 27 (Col.cells Col.zero), .blk b2 27 (Col.cells Col.zero), .blk b1 27 (Col.cells x)]) [0, 1, 2] rfl (by decide)).back hpost
          clear hpost
          have hS : Ms X (fps []) w0 [.blk b2 27 (Col.cells Col.zero), .blk b1 27 (Col.cells x)] [] w := (hm.pick [2, 3] rfl (by decide)).pickφ [] rfl
          refine wpList_nil (qn ⟨hS, ?_⟩)
          refine wph_one (i := 6) (by kernel_rfl) (wph_step rfl ?_)
          refine wpl_store_whole 1 rfl rfl ht hm rfl rfl rfl (szn_27.trans (by first | rw [Col.length_cells] | rfl)) rfl (by simp only [Col.length_cells]) (Col.cells_one _) ?_
          intro a ht w hm
          have hS : Ms X (fps []) w0 [.blk b2 27 (Col.cells Col.zero), .blk b1 27 (Col.cells x)] [] w := (hm.pick [2, 3] rfl (by decide)).pickφ [] rfl
          refine wpList_nil (qn ⟨hS, ?_⟩)
          refine wph_take (i := 7) rfl (by kernel_rfl) (by kernel_rfl) (by kernel_rfl) (fun _ _ _ h => h) rfl ht hS (wanted_plain rfl) (fun w hm => ev_assign ht rfl rfl) ?_
          intro a ht
          refine wph_done (by kernel_rfl) ?_
          refine then_normal ?_
          refine wp_seq ?_
          refine wp_seq ?_
          refine wpr ?_
          refine wpl rfl rfl ht (ev_assign ht rfl rfl) ?_
          intro a ht
          refine wpList_nil ?_
          refine then_normal ?_
          refine wp_block ?_
          refine wpLoop (fun q a w => ∃ (xs0_1 : Col) (xs0_2 : Int), spec_LeastForm.l0 q x t4506 xs0_1 xs0_2 = some r ∧ q ≤ k ∧ Tm 40 [(1, .pointer (some ⟨b1, 0, none⟩)), (2, .pointer (some ⟨b2, 0, none⟩)), (3, .int .i64 0), (4, .pointer (some ⟨b5506, 0, none⟩)), (5, .slice A4507 m4509 c4508), (6, .int .i64 xs0_2)] a ∧ Ms X (fps []) w0 [.vec A4507 c4508 43 1 m4509 vs4510, .blk b5506 27 (Col.cells xs0_1), .blk b2 27 (Col.cells Col.zero), .blk b1 27 (Col.cells x)] [AllInts vs4510 t4506] w) (k0 := k) ⟨x, 0, H, Nat.le_refl _, ht.sub ⟨rfl, rfl, rfl, rfl, rfl, rfl, trivial⟩, (hm.pick [0, 1, 2, 3] rfl (by decide)).pickφ [0] rfl⟩ ?_
          clear H ht hm
          intro q9006 a w hJ
          obtain ⟨xs0_1, xs0_2, H, hqq9006, ht, hm⟩ := hJ
          cases q9006 with
          | zero => cases H
          | succ q9006 =>
          rw [spec_LeastForm.l0] at H
          refine wp_seq ?_
          refine wp_seq ?_
          refine wpr ?_
          refine wpl rfl rfl ht (ev_move ht rfl rfl) ?_
          intro a ht
          refine wpl rfl rfl ht (ev_move ht rfl rfl) ?_
          intro a ht
          refine wpl rfl rfl ht (ev_len_rows ht rfl rfl und_35 (hm.rowsOf 0 0 rfl rfl)) ?_
          intro a ht
          refine wpl rfl rfl ht (ev_cmp ht rfl rfl rfl rfl) ?_
          intro a ht
          refine wpList_nil ?_
          refine then_normal ?_
          by_cases h9007 : xs0_2 < (t4506.length : Int)
          · replace H := ite_yes h9007 H
            refine wpc_yes ht rfl (decide_eq_true h9007) ?_
            refine wp_skip ?_
            refine then_normal ?_
            refine wp_seq ?_
            refine wp_block ?_
            refine wp_seq ?_
            refine wph_begin (fun w => Ms X (fps []) w0 [.vec A4507 c4508 43 1 m4509 vs4510, .blk b5506 27 (Col.cells xs0_1), .blk b2 27 (Col.cells Col.zero), .blk b1 27 (Col.cells x)] [AllInts vs4510 t4506] w) mixed ?_
            replace hm := hm.drew
            have hS : Ms X (fps []) w0 [.vec A4507 c4508 43 1 m4509 vs4510, .blk b5506 27 (Col.cells xs0_1), .blk b2 27 (Col.cells Col.zero), .blk b1 27 (Col.cells x)] [AllInts vs4510 t4506] w.drew := (hm.pick [0, 1, 2, 3] rfl (by decide)).pickφ [0] rfl
            generalize w.drew = w at hm hS ⊢
            refine wph_take (i := 0) rfl (by kernel_rfl) (by kernel_rfl) (by kernel_rfl) (fun _ _ _ h => h) rfl ht hS (wanted_plain rfl) (fun w hm => ev_load_agg ht rfl rfl (ag_27.trans (by first | rw [Col.length_cells] | rfl)) (hm.blk_all 3 rfl)) ?_
            intro a ht
            refine wph_take (i := 1) rfl (by kernel_rfl) (by kernel_rfl) (by kernel_rfl) (fun _ _ _ h => h) rfl ht hS (wanted_plain rfl) (fun w hm => ev_move ht rfl rfl) ?_
            intro a ht
            refine wph_take (i := 2) rfl (by kernel_rfl) (by kernel_rfl) (by kernel_rfl) (fun _ _ _ h => h) rfl ht hS (wanted_plain rfl) (fun w hm => ev_move ht rfl rfl) ?_
            intro a ht
            obtain ⟨l12508, el12508, H⟩ := bind_get H
            refine wph_take (i := 3) rfl (by kernel_rfl) (by kernel_rfl) (by kernel_rfl) (fun _ _ _ h => h) rfl ht hS (wanted_plain rfl) (fun w hm => ev_index_rows ht rfl rfl rfl so_35 (hm.rowsOf 0 0 rfl rfl) el12508) ?_
            intro a ht
            obtain ⟨A13508, c13509, m13510, hv13511, hI⟩ := rowsAt_get (hm.rowsOf 0 0 rfl rfl) el12508
            refine wph_take (i := 4) rfl (by kernel_rfl) (by kernel_rfl) (by kernel_rfl) (fun _ _ _ h => h) rfl ht hS (wanted_plain rfl) (fun w hm => ev_load ht rfl rfl sc_43 (RowsAt.cell (hm.rowsOf 0 0 rfl rfl) hv13511)) ?_
            intro a ht
            replace hm : Ms _ _ _ _ (IntsAt A13508 c13509 m13510 l12508 :: _) w := hm.addφ ((hm.ro 0 rfl).mono fun w h => allInts_at h hv13511 el12508)
            clear hI
            refine wph_two (i := 5) (j := 6) (by kernel_rfl) ?_ ?_ 
            · refine wph_step rfl ?_
              obtain ⟨t14508, et14508, H⟩ := bind_get H
              have hcall := spec_l01Renamed.calls q9006 _ _ A13508 c13509 m13510 x l12508 _ ((fun (hq : Ms _ _ _ ([] ++ [.vec A4507 c4508 43 1 m4509 vs4510, .blk b5506 27 (Col.cells xs0_1), .blk b2 27 (Col.cells Col.zero), .blk b1 27 (Col.cells x)]) _ _) => hq.lend (φp := [IntsAt A13508 c13509 m13510 l12508]) (allRO_cons (hq.lendFact 0 rfl) (allRO_nil))) (hm.pick (own' := [] ++ [.vec A4507 c4508 43 1 m4509 vs4510, .blk b5506 27 (Col.cells xs0_1), .blk b2 27 (Col.cells Col.zero), .blk b1 27 (Col.cells x)]) [0, 1, 2, 3] rfl (by decide))) et14508
              refine wpl_call _ rfl rfl ht rfl rfl rfl rfl can_28 hcall ?_
              clear hcall
              rintro _ w ⟨rfl, hpost⟩ a ht
              replace hm := (hm.pick (own' := [] ++ [.vec A4507 c4508 43 1 m4509 vs4510, .blk b5506 27 (Col.cells xs0_1), .blk b2 27 (Col.cells Col.zero), .blk b1 27 (Col.cells x)]) [0, 1, 2, 3] rfl (by decide)).backL hpost
              clear hpost
              have hS : Ms X (fps []) w0 [.vec A4507 c4508 43 1 m4509 vs4510, .blk b5506 27 (Col.cells xs0_1), .blk b2 27 (Col.cells Col.zero), .blk b1 27 (Col.cells x)] [AllInts vs4510 t4506] w := (hm.pick [0, 1, 2, 3] rfl (by decide)).pickφ [1] rfl
              refine wpList_nil (qn ⟨hS, ?_⟩)
              refine wph_one (i := 6) (by kernel_rfl) (wph_step rfl ?_)
              refine wpl_alloc rfl rfl ht hm rfl zo_27 ?_
              intro b15508 a ht w hm
              have hS : Ms X (fps []) w0 [.vec A4507 c4508 43 1 m4509 vs4510, .blk b5506 27 (Col.cells xs0_1), .blk b2 27 (Col.cells Col.zero), .blk b1 27 (Col.cells x)] [AllInts vs4510 t4506] w := (hm.pick [1, 2, 3, 4] rfl (by decide)).pickφ [1] rfl
              refine wpList_nil (qn ⟨hS, ?_⟩)
              refine wph_one (i := 7) (by kernel_rfl) (wph_step rfl ?_)
              refine wpl_store_whole 0 rfl rfl ht hm rfl rfl rfl (szn_27.trans (by first | rw [Col.length_cells] | rfl)) rfl (by simp only [Col.length_cells]) (Col.cells_one _) ?_
              intro a ht w hm
              have hS : Ms X (fps []) w0 [.vec A4507 c4508 43 1 m4509 vs4510, .blk b5506 27 (Col.cells xs0_1), .blk b2 27 (Col.cells Col.zero), .blk b1 27 (Col.cells x)] [AllInts vs4510 t4506] w := (hm.pick [1, 2, 3, 4] rfl (by decide)).pickφ [1] rfl
              refine wpList_nil (qn ⟨hS, ?_⟩)
              refine wph_done (by kernel_rfl) ?_
              refine then_normal ?_
              refine wp_seq ?_
              refine wpr ?_
              refine wpl rfl rfl ht (ev_load_agg ht rfl rfl (ag_27.trans (by first | rw [Col.length_cells] | rfl)) (hm.blk_all 0 rfl)) ?_
              intro a ht
              refine wpl rfl rfl ht (ev_load_agg ht rfl rfl (ag_27.trans (by first | rw [Col.length_cells] | rfl)) (hm.blk_all 2 rfl)) ?_
              intro a ht
              obtain ⟨t18008, et18008, H⟩ := bind_get H
              have hcall := spec_l06Less.calls q9006 _ _ t14508 xs0_1 _ ((fun (hq : Ms _ _ _ ([] ++ [.blk b15508 27 (Col.cells t14508), .vec A4507 c4508 43 1 m4509 vs4510, .blk b5506 27 (Col.cells xs0_1), .blk b2 27 (Col.cells Col.zero), .blk b1 27 (Col.cells x)]) _ _) => hq.lend (φp := []) (allRO_nil)) (hm.pick (own' := [] ++ [.blk b15508 27 (Col.cells t14508), .vec A4507 c4508 43 1 m4509 vs4510, .blk b5506 27 (Col.cells xs0_1), .blk b2 27 (Col.cells Col.zero), .blk b1 27 (Col.cells x)]) [0, 1, 2, 3, 4] rfl (by decide))) et18008
              refine wpl_call _ rfl rfl ht rfl rfl rfl rfl can_29 hcall ?_
              clear hcall
              rintro _ w ⟨rfl, hpost⟩ a ht
              replace hm := (hm.pick (own' := [] ++ [.blk b15508 27 (Col.cells t14508), .vec A4507 c4508 43 1 m4509 vs4510, .blk b5506 27 (Col.cells xs0_1), .blk b2 27 (Col.cells Col.zero), .blk b1 27 (Col.cells x)]) [0, 1, 2, 3, 4] rfl (by decide)).backL hpost
              clear hpost
              refine wpList_nil ?_
              refine then_normal ?_
              by_cases h18009 : t18008 = true
              · replace H := ite_yes h18009 H
                refine wpc_yes ht rfl h18009 ?_
                refine wpr ?_
                refine wpl rfl rfl ht (ev_load_agg ht rfl rfl (ag_27.trans (by first | rw [Col.length_cells] | rfl)) (hm.blk_all 0 rfl)) ?_
                intro a ht
                refine wpl_store_whole 2 rfl rfl ht hm rfl rfl rfl (szn_27.trans (by first | rw [Col.length_cells] | rfl)) rfl (by simp only [Col.length_cells]) (Col.cells_one _) ?_
                intro a ht w hm
                refine wpList_nil ?_
                refine blk_normal ?_
                refine then_normal ?_
                refine wpr ?_
                refine wpl rfl rfl ht (ev_move ht rfl rfl) ?_
                intro a ht
                refine wpl rfl rfl ht (ev_arith ht rfl rfl rfl rfl) ?_
                intro a ht
                refine wpl rfl rfl ht (ev_assign ht rfl rfl) ?_
                intro a ht
                refine wpList_nil ?_
                exact then_normal ⟨q9006, by omega, t14508, (w64 (xs0_2 + 1)), H, by omega, ht.sub ⟨rfl, rfl, rfl, rfl, rfl, rfl, trivial⟩, (hm.pick [1, 2, 3, 4] rfl (by decide)).pickφ [1] rfl⟩
              · replace H := ite_no h18009 H
                refine wpc_no ht rfl (Bool.eq_false_iff.mpr h18009) ?_
                refine wp_skip ?_
                refine blk_normal ?_
                refine then_normal ?_
                refine wpr ?_
                refine wpl rfl rfl ht (ev_move ht rfl rfl) ?_
                intro a ht
                refine wpl rfl rfl ht (ev_arith ht rfl rfl rfl rfl) ?_
                intro a ht
                refine wpl rfl rfl ht (ev_assign ht rfl rfl) ?_
                intro a ht
                refine wpList_nil ?_
                exact then_normal ⟨q9006, by omega, xs0_1, (w64 (xs0_2 + 1)), H, by omega, ht.sub ⟨rfl, rfl, rfl, rfl, rfl, rfl, trivial⟩, (hm.pick [1, 2, 3, 4] rfl (by decide)).pickφ [1] rfl⟩
            · refine wph_step rfl ?_
              refine wpl_alloc rfl rfl ht hm rfl zo_27 ?_
              intro b15508 a ht w hm
              have hS : Ms X (fps []) w0 [.vec A4507 c4508 43 1 m4509 vs4510, .blk b5506 27 (Col.cells xs0_1), .blk b2 27 (Col.cells Col.zero), .blk b1 27 (Col.cells x)] [AllInts vs4510 t4506] w := (hm.pick [1, 2, 3, 4] rfl (by decide)).pickφ [1] rfl
              refine wpList_nil (qn ⟨hS, ?_⟩)
              refine wph_one (i := 5) (by kernel_rfl) (wph_step rfl ?_)
              obtain ⟨t14508, et14508, H⟩ := bind_get H
              have hcall := spec_l01Renamed.calls q9006 _ _ A13508 c13509 m13510 x l12508 _ ((fun (hq : Ms _ _ _ ([] ++ [.blk b15508 27 (Col.cells Col.zero), .vec A4507 c4508 43 1 m4509 vs4510, .blk b5506 27 (Col.cells xs0_1), .blk b2 27 (Col.cells Col.zero), .blk b1 27 (Col.cells x)]) _ _) => hq.lend (φp := [IntsAt A13508 c13509 m13510 l12508]) (allRO_cons (hq.lendFact 0 rfl) (allRO_nil))) (hm.pick (own' := [] ++ [.blk b15508 27 (Col.cells Col.zero), .vec A4507 c4508 43 1 m4509 vs4510, .blk b5506 27 (Col.cells xs0_1), .blk b2 27 (Col.cells Col.zero), .blk b1 27 (Col.cells x)]) [0, 1, 2, 3, 4] rfl (by decide))) et14508
              refine wpl_call _ rfl rfl ht rfl rfl rfl rfl can_28 hcall ?_
              clear hcall
              rintro _ w ⟨rfl, hpost⟩ a ht
              replace hm := (hm.pick (own' := [] ++ [.blk b15508 27 (Col.cells Col.zero), .vec A4507 c4508 43 1 m4509 vs4510, .blk b5506 27 (Col.cells xs0_1), .blk b2 27 (Col.cells Col.zero), .blk b1 27 (Col.cells x)]) [0, 1, 2, 3, 4] rfl (by decide)).backL hpost
              clear hpost
              have hS : Ms X (fps []) w0 [.vec A4507 c4508 43 1 m4509 vs4510, .blk b5506 27 (Col.cells xs0_1), .blk b2 27 (Col.cells Col.zero), .blk b1 27 (Col.cells x)] [AllInts vs4510 t4506] w := (hm.pick [1, 2, 3, 4] rfl (by decide)).pickφ [1] rfl
              refine wpList_nil (qn ⟨hS, ?_⟩)
              refine wph_one (i := 7) (by kernel_rfl) (wph_step rfl ?_)
              refine wpl_store_whole 0 rfl rfl ht hm rfl rfl rfl (szn_27.trans (by first | rw [Col.length_cells] | rfl)) rfl (by simp only [Col.length_cells]) (Col.cells_one _) ?_
              intro a ht w hm
              have hS : Ms X (fps []) w0 [.vec A4507 c4508 43 1 m4509 vs4510, .blk b5506 27 (Col.cells xs0_1), .blk b2 27 (Col.cells Col.zero), .blk b1 27 (Col.cells x)] [AllInts vs4510 t4506] w := (hm.pick [1, 2, 3, 4] rfl (by decide)).pickφ [1] rfl
              refine wpList_nil (qn ⟨hS, ?_⟩)
              refine wph_done (by kernel_rfl) ?_
              refine then_normal ?_
              refine wp_seq ?_
              refine wpr ?_
              refine wpl rfl rfl ht (ev_load_agg ht rfl rfl (ag_27.trans (by first | rw [Col.length_cells] | rfl)) (hm.blk_all 0 rfl)) ?_
              intro a ht
              refine wpl rfl rfl ht (ev_load_agg ht rfl rfl (ag_27.trans (by first | rw [Col.length_cells] | rfl)) (hm.blk_all 2 rfl)) ?_
              intro a ht
              obtain ⟨t18008, et18008, H⟩ := bind_get H
              have hcall := spec_l06Less.calls q9006 _ _ t14508 xs0_1 _ ((fun (hq : Ms _ _ _ ([] ++ [.blk b15508 27 (Col.cells t14508), .vec A4507 c4508 43 1 m4509 vs4510, .blk b5506 27 (Col.cells xs0_1), .blk b2 27 (Col.cells Col.zero), .blk b1 27 (Col.cells x)]) _ _) => hq.lend (φp := []) (allRO_nil)) (hm.pick (own' := [] ++ [.blk b15508 27 (Col.cells t14508), .vec A4507 c4508 43 1 m4509 vs4510, .blk b5506 27 (Col.cells xs0_1), .blk b2 27 (Col.cells Col.zero), .blk b1 27 (Col.cells x)]) [0, 1, 2, 3, 4] rfl (by decide))) et18008
              refine wpl_call _ rfl rfl ht rfl rfl rfl rfl can_29 hcall ?_
              clear hcall
              rintro _ w ⟨rfl, hpost⟩ a ht
              replace hm := (hm.pick (own' := [] ++ [.blk b15508 27 (Col.cells t14508), .vec A4507 c4508 43 1 m4509 vs4510, .blk b5506 27 (Col.cells xs0_1), .blk b2 27 (Col.cells Col.zero), .blk b1 27 (Col.cells x)]) [0, 1, 2, 3, 4] rfl (by decide)).backL hpost
              clear hpost
              refine wpList_nil ?_
              refine then_normal ?_
              by_cases h18009 : t18008 = true
              · replace H := ite_yes h18009 H
                refine wpc_yes ht rfl h18009 ?_
                refine wpr ?_
                refine wpl rfl rfl ht (ev_load_agg ht rfl rfl (ag_27.trans (by first | rw [Col.length_cells] | rfl)) (hm.blk_all 0 rfl)) ?_
                intro a ht
                refine wpl_store_whole 2 rfl rfl ht hm rfl rfl rfl (szn_27.trans (by first | rw [Col.length_cells] | rfl)) rfl (by simp only [Col.length_cells]) (Col.cells_one _) ?_
                intro a ht w hm
                refine wpList_nil ?_
                refine blk_normal ?_
                refine then_normal ?_
                refine wpr ?_
                refine wpl rfl rfl ht (ev_move ht rfl rfl) ?_
                intro a ht
                refine wpl rfl rfl ht (ev_arith ht rfl rfl rfl rfl) ?_
                intro a ht
                refine wpl rfl rfl ht (ev_assign ht rfl rfl) ?_
                intro a ht
                refine wpList_nil ?_
                exact then_normal ⟨q9006, by omega, t14508, (w64 (xs0_2 + 1)), H, by omega, ht.sub ⟨rfl, rfl, rfl, rfl, rfl, rfl, trivial⟩, (hm.pick [1, 2, 3, 4] rfl (by decide)).pickφ [1] rfl⟩
              · replace H := ite_no h18009 H
                refine wpc_no ht rfl (Bool.eq_false_iff.mpr h18009) ?_
                refine wp_skip ?_
                refine blk_normal ?_
                refine then_normal ?_
                refine wpr ?_
                refine wpl rfl rfl ht (ev_move ht rfl rfl) ?_
                intro a ht
                refine wpl rfl rfl ht (ev_arith ht rfl rfl rfl rfl) ?_
                intro a ht
                refine wpl rfl rfl ht (ev_assign ht rfl rfl) ?_
                intro a ht
                refine wpList_nil ?_
                exact then_normal ⟨q9006, by omega, xs0_1, (w64 (xs0_2 + 1)), H, by omega, ht.sub ⟨rfl, rfl, rfl, rfl, rfl, rfl, trivial⟩, (hm.pick [1, 2, 3, 4] rfl (by decide)).pickφ [1] rfl⟩
          · replace H := ite_no h9007 H
            refine wpc_no ht rfl (decide_eq_false h9007) ?_
            refine wp_exit ?_
            refine then_exit ?_
            refine then_exit ?_
            refine blk_hit ?_
            refine then_normal ?_
            refine wp_seq ?_
            refine wpr ?_
            refine wpl rfl rfl ht (ev_load_agg ht rfl rfl (ag_27.trans (by first | rw [Col.length_cells] | rfl)) (hm.blk_all 1 rfl)) ?_
            intro a ht
            refine wpl_store_whole 2 rfl rfl ht hm rfl rfl rfl (szn_27.trans (by first | rw [Col.length_cells] | rfl)) rfl (by simp only [Col.length_cells]) (Col.cells_one _) ?_
            intro a ht w hm
            refine wpl rfl rfl ht (ev_assign ht rfl rfl) ?_
            intro a ht
            refine wpList_nil ?_
            refine then_normal ?_
            refine wp_ret ?_
            have hres := ht.res (P := Try.prog) (w := w) (rs := [.cell 2 27, .tmp 3]) (vs := [.agg (Col.cells xs0_1).toArray, .int .i64 0]) (.agg rfl (ag_27.trans (by first | rw [Col.length_cells] | rfl)) (hm.blk_all 2 rfl) (.tmp rfl .nil))
            obtain rfl := Option.some.inj H
            exact leave ht rfl hres ⟨rfl, ((hm.pick [] rfl (by decide)).pickφ [] rfl).post fun _ h => h⟩
      · refine wph_step rfl ?_
        refine wpl_alloc rfl rfl ht hm rfl zo_27 ?_
        intro b5506 a ht w hm
        have hS : Ms X (fps []) w0 [.blk b2 27 (Col.cells Col.zero), .blk b1 27 (Col.cells x)] [] w := (hm.pick [1, 2] rfl (by decide)).pickφ [] rfl
        refine wpList_nil (qn ⟨hS, ?_⟩)
        refine wph_one (i := 1) (by kernel_rfl) (wph_step rfl ?_)
        refine wpl_build_ints (l := ([] : List Int)) rfl rfl ht hm rfl und_43 zo_2 sz1_2 (by decide) rfl rfl rfl ?_
        intro A1506 a ht w hm
        have hS : Ms X (fps []) w0 [.blk b2 27 (Col.cells Col.zero), .blk b1 27 (Col.cells x)] [] w := (hm.pick [2, 3] rfl (by decide)).pickφ [] rfl
        refine wpList_nil (qn ⟨hS, ?_⟩)
        refine wph_one (i := 4) (by kernel_rfl) (wph_step rfl ?_)
        replace hm : Ms _ _ _ _ (IntsAt A1506 0 0 ([] : List Int) :: _) w := hm.shutVec 0 rfl
        obtain ⟨t4506, et4506, H⟩ := bind_get H
        have hcall := spec_l06Orders.calls k _ _ A1506 0 0 ([] : List Int) x.p _ ((hm.pick (own' := [] ++ [.blk b5506 27 (Col.cells Col.zero), .blk b2 27 (Col.cells Col.zero), .blk b1 27 (Col.cells x)]) [0, 1, 2] rfl (by decide)).give (passed := []) (rest := [.blk b5506 27 (Col.cells Col.zero), .blk b2 27 (Col.cells Col.zero), .blk b1 27 (Col.cells x)]) (φp := [IntsAt A1506 0 0 ([] : List Int)]) [0] rfl) et4506
        refine wpl_call _ rfl rfl ht rfl rfl rfl rfl can_27 hcall ?_
        clear hcall
        rintro _ w ⟨A4507, c4508, m4509, vs4510, rfl, hpost⟩ a ht
        replace hm := (hm.pick (own' := [] ++ [.blk b5506 27 (Col.cells Col.zero), .blk b2 27 (Col.cells Col.zero), .blk b1 27 (Col.cells x)]) [0, 1, 2] rfl (by decide)).back hpost
        clear hpost
        have hS : Ms X (fps []) w0 [.blk b2 27 (Col.cells Col.zero), .blk b1 27 (Col.cells x)] [] w := (hm.pick [2, 3] rfl (by decide)).pickφ [] rfl
        refine wpList_nil (qn ⟨hS, ?_⟩)
        refine wph_one (i := 6) (by kernel_rfl) (wph_step rfl ?_)
        refine wpl_store_whole 1 rfl rfl ht hm rfl rfl rfl (szn_27.trans (by first | rw [Col.length_cells] | rfl)) rfl (by simp only [Col.length_cells]) (Col.cells_one _) ?_
        intro a ht w hm
        have hS : Ms X (fps []) w0 [.blk b2 27 (Col.cells Col.zero), .blk b1 27 (Col.cells x)] [] w := (hm.pick [2, 3] rfl (by decide)).pickφ [] rfl
        refine wpList_nil (qn ⟨hS, ?_⟩)
        refine wph_take (i := 7) rfl (by kernel_rfl) (by kernel_rfl) (by kernel_rfl) (fun _ _ _ h => h) rfl ht hS (wanted_plain rfl) (fun w hm => ev_assign ht rfl rfl) ?_
        intro a ht
        refine wph_done (by kernel_rfl) ?_
        refine then_normal ?_
        refine wp_seq ?_
        refine wp_seq ?_
        refine wpr ?_
        refine wpl rfl rfl ht (ev_assign ht rfl rfl) ?_
        intro a ht
        refine wpList_nil ?_
        refine then_normal ?_
        refine wp_block ?_
        refine wpLoop (fun q a w => ∃ (xs0_1 : Col) (xs0_2 : Int), spec_LeastForm.l0 q x t4506 xs0_1 xs0_2 = some r ∧ q ≤ k ∧ Tm 40 [(1, .pointer (some ⟨b1, 0, none⟩)), (2, .pointer (some ⟨b2, 0, none⟩)), (3, .int .i64 0), (4, .pointer (some ⟨b5506, 0, none⟩)), (5, .slice A4507 m4509 c4508), (6, .int .i64 xs0_2)] a ∧ Ms X (fps []) w0 [.vec A4507 c4508 43 1 m4509 vs4510, .blk b5506 27 (Col.cells xs0_1), .blk b2 27 (Col.cells Col.zero), .blk b1 27 (Col.cells x)] [AllInts vs4510 t4506] w) (k0 := k) ⟨x, 0, H, Nat.le_refl _, ht.sub ⟨rfl, rfl, rfl, rfl, rfl, rfl, trivial⟩, (hm.pick [0, 1, 2, 3] rfl (by decide)).pickφ [0] rfl⟩ ?_
        clear H ht hm
        intro q9006 a w hJ
        obtain ⟨xs0_1, xs0_2, H, hqq9006, ht, hm⟩ := hJ
        cases q9006 with
        | zero => cases H
        | succ q9006 =>
        rw [spec_LeastForm.l0] at H
        refine wp_seq ?_
        refine wp_seq ?_
        refine wpr ?_
        refine wpl rfl rfl ht (ev_move ht rfl rfl) ?_
        intro a ht
        refine wpl rfl rfl ht (ev_move ht rfl rfl) ?_
        intro a ht
        refine wpl rfl rfl ht (ev_len_rows ht rfl rfl und_35 (hm.rowsOf 0 0 rfl rfl)) ?_
        intro a ht
        refine wpl rfl rfl ht (ev_cmp ht rfl rfl rfl rfl) ?_
        intro a ht
        refine wpList_nil ?_
        refine then_normal ?_
        by_cases h9007 : xs0_2 < (t4506.length : Int)
        · replace H := ite_yes h9007 H
          refine wpc_yes ht rfl (decide_eq_true h9007) ?_
          refine wp_skip ?_
          refine then_normal ?_
          refine wp_seq ?_
          refine wp_block ?_
          refine wp_seq ?_
          refine wph_begin (fun w => Ms X (fps []) w0 [.vec A4507 c4508 43 1 m4509 vs4510, .blk b5506 27 (Col.cells xs0_1), .blk b2 27 (Col.cells Col.zero), .blk b1 27 (Col.cells x)] [AllInts vs4510 t4506] w) mixed ?_
          replace hm := hm.drew
          have hS : Ms X (fps []) w0 [.vec A4507 c4508 43 1 m4509 vs4510, .blk b5506 27 (Col.cells xs0_1), .blk b2 27 (Col.cells Col.zero), .blk b1 27 (Col.cells x)] [AllInts vs4510 t4506] w.drew := (hm.pick [0, 1, 2, 3] rfl (by decide)).pickφ [0] rfl
          generalize w.drew = w at hm hS ⊢
          refine wph_take (i := 0) rfl (by kernel_rfl) (by kernel_rfl) (by kernel_rfl) (fun _ _ _ h => h) rfl ht hS (wanted_plain rfl) (fun w hm => ev_load_agg ht rfl rfl (ag_27.trans (by first | rw [Col.length_cells] | rfl)) (hm.blk_all 3 rfl)) ?_
          intro a ht
          refine wph_take (i := 1) rfl (by kernel_rfl) (by kernel_rfl) (by kernel_rfl) (fun _ _ _ h => h) rfl ht hS (wanted_plain rfl) (fun w hm => ev_move ht rfl rfl) ?_
          intro a ht
          refine wph_take (i := 2) rfl (by kernel_rfl) (by kernel_rfl) (by kernel_rfl) (fun _ _ _ h => h) rfl ht hS (wanted_plain rfl) (fun w hm => ev_move ht rfl rfl) ?_
          intro a ht
          obtain ⟨l12508, el12508, H⟩ := bind_get H
          refine wph_take (i := 3) rfl (by kernel_rfl) (by kernel_rfl) (by kernel_rfl) (fun _ _ _ h => h) rfl ht hS (wanted_plain rfl) (fun w hm => ev_index_rows ht rfl rfl rfl so_35 (hm.rowsOf 0 0 rfl rfl) el12508) ?_
          intro a ht
          obtain ⟨A13508, c13509, m13510, hv13511, hI⟩ := rowsAt_get (hm.rowsOf 0 0 rfl rfl) el12508
          refine wph_take (i := 4) rfl (by kernel_rfl) (by kernel_rfl) (by kernel_rfl) (fun _ _ _ h => h) rfl ht hS (wanted_plain rfl) (fun w hm => ev_load ht rfl rfl sc_43 (RowsAt.cell (hm.rowsOf 0 0 rfl rfl) hv13511)) ?_
          intro a ht
          replace hm : Ms _ _ _ _ (IntsAt A13508 c13509 m13510 l12508 :: _) w := hm.addφ ((hm.ro 0 rfl).mono fun w h => allInts_at h hv13511 el12508)
          clear hI
          refine wph_two (i := 5) (j := 6) (by kernel_rfl) ?_ ?_ 
          · refine wph_step rfl ?_
            obtain ⟨t14508, et14508, H⟩ := bind_get H
            have hcall := spec_l01Renamed.calls q9006 _ _ A13508 c13509 m13510 x l12508 _ ((fun (hq : Ms _ _ _ ([] ++ [.vec A4507 c4508 43 1 m4509 vs4510, .blk b5506 27 (Col.cells xs0_1), .blk b2 27 (Col.cells Col.zero), .blk b1 27 (Col.cells x)]) _ _) => hq.lend (φp := [IntsAt A13508 c13509 m13510 l12508]) (allRO_cons (hq.lendFact 0 rfl) (allRO_nil))) (hm.pick (own' := [] ++ [.vec A4507 c4508 43 1 m4509 vs4510, .blk b5506 27 (Col.cells xs0_1), .blk b2 27 (Col.cells Col.zero), .blk b1 27 (Col.cells x)]) [0, 1, 2, 3] rfl (by decide))) et14508
            refine wpl_call _ rfl rfl ht rfl rfl rfl rfl can_28 hcall ?_
            clear hcall
            rintro _ w ⟨rfl, hpost⟩ a ht
            replace hm := (hm.pick (own' := [] ++ [.vec A4507 c4508 43 1 m4509 vs4510, .blk b5506 27 (Col.cells xs0_1), .blk b2 27 (Col.cells Col.zero), .blk b1 27 (Col.cells x)]) [0, 1, 2, 3] rfl (by decide)).backL hpost
            clear hpost
            have hS : Ms X (fps []) w0 [.vec A4507 c4508 43 1 m4509 vs4510, .blk b5506 27 (Col.cells xs0_1), .blk b2 27 (Col.cells Col.zero), .blk b1 27 (Col.cells x)] [AllInts vs4510 t4506] w := (hm.pick [0, 1, 2, 3] rfl (by decide)).pickφ [1] rfl
            refine wpList_nil (qn ⟨hS, ?_⟩)
            refine wph_one (i := 6) (by kernel_rfl) (wph_step rfl ?_)
            refine wpl_alloc rfl rfl ht hm rfl zo_27 ?_
            intro b15508 a ht w hm
            have hS : Ms X (fps []) w0 [.vec A4507 c4508 43 1 m4509 vs4510, .blk b5506 27 (Col.cells xs0_1), .blk b2 27 (Col.cells Col.zero), .blk b1 27 (Col.cells x)] [AllInts vs4510 t4506] w := (hm.pick [1, 2, 3, 4] rfl (by decide)).pickφ [1] rfl
            refine wpList_nil (qn ⟨hS, ?_⟩)
            refine wph_one (i := 7) (by kernel_rfl) (wph_step rfl ?_)
            refine wpl_store_whole 0 rfl rfl ht hm rfl rfl rfl (szn_27.trans (by first | rw [Col.length_cells] | rfl)) rfl (by simp only [Col.length_cells]) (Col.cells_one _) ?_
            intro a ht w hm
            have hS : Ms X (fps []) w0 [.vec A4507 c4508 43 1 m4509 vs4510, .blk b5506 27 (Col.cells xs0_1), .blk b2 27 (Col.cells Col.zero), .blk b1 27 (Col.cells x)] [AllInts vs4510 t4506] w := (hm.pick [1, 2, 3, 4] rfl (by decide)).pickφ [1] rfl
            refine wpList_nil (qn ⟨hS, ?_⟩)
            refine wph_done (by kernel_rfl) ?_
            refine then_normal ?_
            refine wp_seq ?_
            refine wpr ?_
            refine wpl rfl rfl ht (ev_load_agg ht rfl rfl (ag_27.trans (by first | rw [Col.length_cells] | rfl)) (hm.blk_all 0 rfl)) ?_
            intro a ht
            refine wpl rfl rfl ht (ev_load_agg ht rfl rfl (ag_27.trans (by first | rw [Col.length_cells] | rfl)) (hm.blk_all 2 rfl)) ?_
            intro a ht
            obtain ⟨t18008, et18008, H⟩ := bind_get H
            have hcall := spec_l06Less.calls q9006 _ _ t14508 xs0_1 _ ((fun (hq : Ms _ _ _ ([] ++ [.blk b15508 27 (Col.cells t14508), .vec A4507 c4508 43 1 m4509 vs4510, .blk b5506 27 (Col.cells xs0_1), .blk b2 27 (Col.cells Col.zero), .blk b1 27 (Col.cells x)]) _ _) => hq.lend (φp := []) (allRO_nil)) (hm.pick (own' := [] ++ [.blk b15508 27 (Col.cells t14508), .vec A4507 c4508 43 1 m4509 vs4510, .blk b5506 27 (Col.cells xs0_1), .blk b2 27 (Col.cells Col.zero), .blk b1 27 (Col.cells x)]) [0, 1, 2, 3, 4] rfl (by decide))) et18008
            refine wpl_call _ rfl rfl ht rfl rfl rfl rfl can_29 hcall ?_
            clear hcall
            rintro _ w ⟨rfl, hpost⟩ a ht
            replace hm := (hm.pick (own' := [] ++ [.blk b15508 27 (Col.cells t14508), .vec A4507 c4508 43 1 m4509 vs4510, .blk b5506 27 (Col.cells xs0_1), .blk b2 27 (Col.cells Col.zero), .blk b1 27 (Col.cells x)]) [0, 1, 2, 3, 4] rfl (by decide)).backL hpost
            clear hpost
            refine wpList_nil ?_
            refine then_normal ?_
            by_cases h18009 : t18008 = true
            · replace H := ite_yes h18009 H
              refine wpc_yes ht rfl h18009 ?_
              refine wpr ?_
              refine wpl rfl rfl ht (ev_load_agg ht rfl rfl (ag_27.trans (by first | rw [Col.length_cells] | rfl)) (hm.blk_all 0 rfl)) ?_
              intro a ht
              refine wpl_store_whole 2 rfl rfl ht hm rfl rfl rfl (szn_27.trans (by first | rw [Col.length_cells] | rfl)) rfl (by simp only [Col.length_cells]) (Col.cells_one _) ?_
              intro a ht w hm
              refine wpList_nil ?_
              refine blk_normal ?_
              refine then_normal ?_
              refine wpr ?_
              refine wpl rfl rfl ht (ev_move ht rfl rfl) ?_
              intro a ht
              refine wpl rfl rfl ht (ev_arith ht rfl rfl rfl rfl) ?_
              intro a ht
              refine wpl rfl rfl ht (ev_assign ht rfl rfl) ?_
              intro a ht
              refine wpList_nil ?_
              exact then_normal ⟨q9006, by omega, t14508, (w64 (xs0_2 + 1)), H, by omega, ht.sub ⟨rfl, rfl, rfl, rfl, rfl, rfl, trivial⟩, (hm.pick [1, 2, 3, 4] rfl (by decide)).pickφ [1] rfl⟩
            · replace H := ite_no h18009 H
              refine wpc_no ht rfl (Bool.eq_false_iff.mpr h18009) ?_
              refine wp_skip ?_
              refine blk_normal ?_
              refine then_normal ?_
              refine wpr ?_
              refine wpl rfl rfl ht (ev_move ht rfl rfl) ?_
              intro a ht
              refine wpl rfl rfl ht (ev_arith ht rfl rfl rfl rfl) ?_
              intro a ht
              refine wpl rfl rfl ht (ev_assign ht rfl rfl) ?_
              intro a ht
              refine wpList_nil ?_
              exact then_normal ⟨q9006, by omega, xs0_1, (w64 (xs0_2 + 1)), H, by omega, ht.sub ⟨rfl, rfl, rfl, rfl, rfl, rfl, trivial⟩, (hm.pick [1, 2, 3, 4] rfl (by decide)).pickφ [1] rfl⟩
          · refine wph_step rfl ?_
            refine wpl_alloc rfl rfl ht hm rfl zo_27 ?_
            intro b15508 a ht w hm
            have hS : Ms X (fps []) w0 [.vec A4507 c4508 43 1 m4509 vs4510, .blk b5506 27 (Col.cells xs0_1), .blk b2 27 (Col.cells Col.zero), .blk b1 27 (Col.cells x)] [AllInts vs4510 t4506] w := (hm.pick [1, 2, 3, 4] rfl (by decide)).pickφ [1] rfl
            refine wpList_nil (qn ⟨hS, ?_⟩)
            refine wph_one (i := 5) (by kernel_rfl) (wph_step rfl ?_)
            obtain ⟨t14508, et14508, H⟩ := bind_get H
            have hcall := spec_l01Renamed.calls q9006 _ _ A13508 c13509 m13510 x l12508 _ ((fun (hq : Ms _ _ _ ([] ++ [.blk b15508 27 (Col.cells Col.zero), .vec A4507 c4508 43 1 m4509 vs4510, .blk b5506 27 (Col.cells xs0_1), .blk b2 27 (Col.cells Col.zero), .blk b1 27 (Col.cells x)]) _ _) => hq.lend (φp := [IntsAt A13508 c13509 m13510 l12508]) (allRO_cons (hq.lendFact 0 rfl) (allRO_nil))) (hm.pick (own' := [] ++ [.blk b15508 27 (Col.cells Col.zero), .vec A4507 c4508 43 1 m4509 vs4510, .blk b5506 27 (Col.cells xs0_1), .blk b2 27 (Col.cells Col.zero), .blk b1 27 (Col.cells x)]) [0, 1, 2, 3, 4] rfl (by decide))) et14508
            refine wpl_call _ rfl rfl ht rfl rfl rfl rfl can_28 hcall ?_
            clear hcall
            rintro _ w ⟨rfl, hpost⟩ a ht
            replace hm := (hm.pick (own' := [] ++ [.blk b15508 27 (Col.cells Col.zero), .vec A4507 c4508 43 1 m4509 vs4510, .blk b5506 27 (Col.cells xs0_1), .blk b2 27 (Col.cells Col.zero), .blk b1 27 (Col.cells x)]) [0, 1, 2, 3, 4] rfl (by decide)).backL hpost
            clear hpost
            have hS : Ms X (fps []) w0 [.vec A4507 c4508 43 1 m4509 vs4510, .blk b5506 27 (Col.cells xs0_1), .blk b2 27 (Col.cells Col.zero), .blk b1 27 (Col.cells x)] [AllInts vs4510 t4506] w := (hm.pick [1, 2, 3, 4] rfl (by decide)).pickφ [1] rfl
            refine wpList_nil (qn ⟨hS, ?_⟩)
            refine wph_one (i := 7) (by kernel_rfl) (wph_step rfl ?_)
            refine wpl_store_whole 0 rfl rfl ht hm rfl rfl rfl (szn_27.trans (by first | rw [Col.length_cells] | rfl)) rfl (by simp only [Col.length_cells]) (Col.cells_one _) ?_
            intro a ht w hm
            have hS : Ms X (fps []) w0 [.vec A4507 c4508 43 1 m4509 vs4510, .blk b5506 27 (Col.cells xs0_1), .blk b2 27 (Col.cells Col.zero), .blk b1 27 (Col.cells x)] [AllInts vs4510 t4506] w := (hm.pick [1, 2, 3, 4] rfl (by decide)).pickφ [1] rfl
            refine wpList_nil (qn ⟨hS, ?_⟩)
            refine wph_done (by kernel_rfl) ?_
            refine then_normal ?_
            refine wp_seq ?_
            refine wpr ?_
            refine wpl rfl rfl ht (ev_load_agg ht rfl rfl (ag_27.trans (by first | rw [Col.length_cells] | rfl)) (hm.blk_all 0 rfl)) ?_
            intro a ht
            refine wpl rfl rfl ht (ev_load_agg ht rfl rfl (ag_27.trans (by first | rw [Col.length_cells] | rfl)) (hm.blk_all 2 rfl)) ?_
            intro a ht
            obtain ⟨t18008, et18008, H⟩ := bind_get H
            have hcall := spec_l06Less.calls q9006 _ _ t14508 xs0_1 _ ((fun (hq : Ms _ _ _ ([] ++ [.blk b15508 27 (Col.cells t14508), .vec A4507 c4508 43 1 m4509 vs4510, .blk b5506 27 (Col.cells xs0_1), .blk b2 27 (Col.cells Col.zero), .blk b1 27 (Col.cells x)]) _ _) => hq.lend (φp := []) (allRO_nil)) (hm.pick (own' := [] ++ [.blk b15508 27 (Col.cells t14508), .vec A4507 c4508 43 1 m4509 vs4510, .blk b5506 27 (Col.cells xs0_1), .blk b2 27 (Col.cells Col.zero), .blk b1 27 (Col.cells x)]) [0, 1, 2, 3, 4] rfl (by decide))) et18008
            refine wpl_call _ rfl rfl ht rfl rfl rfl rfl can_29 hcall ?_
            clear hcall
            rintro _ w ⟨rfl, hpost⟩ a ht
            replace hm := (hm.pick (own' := [] ++ [.blk b15508 27 (Col.cells t14508), .vec A4507 c4508 43 1 m4509 vs4510, .blk b5506 27 (Col.cells xs0_1), .blk b2 27 (Col.cells Col.zero), .blk b1 27 (Col.cells x)]) [0, 1, 2, 3, 4] rfl (by decide)).backL hpost
            clear hpost
            refine wpList_nil ?_
            refine then_normal ?_
            by_cases h18009 : t18008 = true
            · replace H := ite_yes h18009 H
              refine wpc_yes ht rfl h18009 ?_
              refine wpr ?_
              refine wpl rfl rfl ht (ev_load_agg ht rfl rfl (ag_27.trans (by first | rw [Col.length_cells] | rfl)) (hm.blk_all 0 rfl)) ?_
              intro a ht
              refine wpl_store_whole 2 rfl rfl ht hm rfl rfl rfl (szn_27.trans (by first | rw [Col.length_cells] | rfl)) rfl (by simp only [Col.length_cells]) (Col.cells_one _) ?_
              intro a ht w hm
              refine wpList_nil ?_
              refine blk_normal ?_
              refine then_normal ?_
              refine wpr ?_
              refine wpl rfl rfl ht (ev_move ht rfl rfl) ?_
              intro a ht
              refine wpl rfl rfl ht (ev_arith ht rfl rfl rfl rfl) ?_
              intro a ht
              refine wpl rfl rfl ht (ev_assign ht rfl rfl) ?_
              intro a ht
              refine wpList_nil ?_
              exact then_normal ⟨q9006, by omega, t14508, (w64 (xs0_2 + 1)), H, by omega, ht.sub ⟨rfl, rfl, rfl, rfl, rfl, rfl, trivial⟩, (hm.pick [1, 2, 3, 4] rfl (by decide)).pickφ [1] rfl⟩
            · replace H := ite_no h18009 H
              refine wpc_no ht rfl (Bool.eq_false_iff.mpr h18009) ?_
              refine wp_skip ?_
              refine blk_normal ?_
              refine then_normal ?_
              refine wpr ?_
              refine wpl rfl rfl ht (ev_move ht rfl rfl) ?_
              intro a ht
              refine wpl rfl rfl ht (ev_arith ht rfl rfl rfl rfl) ?_
              intro a ht
              refine wpl rfl rfl ht (ev_assign ht rfl rfl) ?_
              intro a ht
              refine wpList_nil ?_
              exact then_normal ⟨q9006, by omega, xs0_1, (w64 (xs0_2 + 1)), H, by omega, ht.sub ⟨rfl, rfl, rfl, rfl, rfl, rfl, trivial⟩, (hm.pick [1, 2, 3, 4] rfl (by decide)).pickφ [1] rfl⟩
        · replace H := ite_no h9007 H
          refine wpc_no ht rfl (decide_eq_false h9007) ?_
          refine wp_exit ?_
          refine then_exit ?_
          refine then_exit ?_
          refine blk_hit ?_
          refine then_normal ?_
          refine wp_seq ?_
          refine wpr ?_
          refine wpl rfl rfl ht (ev_load_agg ht rfl rfl (ag_27.trans (by first | rw [Col.length_cells] | rfl)) (hm.blk_all 1 rfl)) ?_
          intro a ht
          refine wpl_store_whole 2 rfl rfl ht hm rfl rfl rfl (szn_27.trans (by first | rw [Col.length_cells] | rfl)) rfl (by simp only [Col.length_cells]) (Col.cells_one _) ?_
          intro a ht w hm
          refine wpl rfl rfl ht (ev_assign ht rfl rfl) ?_
          intro a ht
          refine wpList_nil ?_
          refine then_normal ?_
          refine wp_ret ?_
          have hres := ht.res (P := Try.prog) (w := w) (rs := [.cell 2 27, .tmp 3]) (vs := [.agg (Col.cells xs0_1).toArray, .int .i64 0]) (.agg rfl (ag_27.trans (by first | rw [Col.length_cells] | rfl)) (hm.blk_all 2 rfl) (.tmp rfl .nil))
          obtain rfl := Option.some.inj H
          exact leave ht rfl hres ⟨rfl, ((hm.pick [] rfl (by decide)).pickφ [] rfl).post fun _ h => h⟩
  · replace H := ite_no h4 H
    refine wpc_yes ht rfl (not_f (Bool.eq_false_iff.mpr h4)) ?_
    refine wp_seq ?_
    refine wpr ?_
    refine wpl rfl rfl ht (ev_build (vs := Col.cells Col.zero) ht rfl bi_27 rfl rfl) ?_
    intro a ht
    refine wpl_store_whole 0 rfl rfl ht hm rfl rfl rfl (szn_27.trans (by first | rw [Col.length_cells] | rfl)) rfl (by simp only [Col.length_cells]) (Col.cells_one _) ?_
    intro a ht w hm
    refine wpl rfl rfl ht (ev_assign ht rfl rfl) ?_
    intro a ht
    refine wpList_nil ?_
    refine then_normal ?_
    refine wp_ret ?_
    refine blk_ret ?_
    refine then_ret ?_
    have hres := ht.res (P := Try.prog) (w := w) (rs := [.cell 2 27, .tmp 3]) (vs := [.agg (Col.cells Col.zero).toArray, .int .i64 1]) (.agg rfl (ag_27.trans (by first | rw [Col.length_cells] | rfl)) (hm.blk_all 0 rfl) (.tmp rfl .nil))
    obtain rfl := Option.some.inj H
    exact leave ht rfl hres ⟨rfl, ((hm.pick [] rfl (by decide)).pickφ [] rfl).post fun _ h => h⟩

end Go.Proofs.Ytbgniopmmankdaa.G
