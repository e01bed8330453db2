/- What each Go function computes, as a Lean function, and the proof that it does: written by a program of this session (wip/gen), part 10. -/
import Derived.Test.YtbgniopmmankdaaGFnExactPointOrbits9
namespace Go.Proofs.Ytbgniopmmankdaa.G
open Go Go.RowKit Go.Proofs.Ytbgniopmmankdaa.K
set_option linter.unusedVariables false
set_option linter.unusedSimpArgs false

/-! ### impl_PointOrbits: function 16 (loop.example/g01362/impl.PointOrbits) -/
def impl_PointOrbits.l0 : Nat → Col → List (List Int) → Int → Option (List (List Int) × Int)
  | 0, _, _, _ => none
  | q6 + 1, x, ls0_4, xs0_6 => if xs0_6 < x.p then ((slices_IndexFunc_int64_int64__PointOrbits_1.f q6 ls0_4 x xs0_6).bind fun t9 => if t9 < 0 then ((concatR ls0_4 ([[xs0_6]])).bind fun l17 => impl_PointOrbits.l0 q6 x l17 (w64 (xs0_6 + 1))) else ((getR ls0_4 t9).bind fun l4518 => (push l4518 xs0_6).bind fun l8521 => (getR ls0_4 t9).bind fun l9518 => impl_PointOrbits.l0 q6 x (ls0_4.set t9.toNat l8521) (w64 (xs0_6 + 1)))) else (some (ls0_4, 0))
def impl_PointOrbits.f (k : Nat) (x : Col) : Option (List (List Int) × Int) := (impl_Colouring_code__always.f k x).bind fun t2 => if t2 ≠ 0 then (some (([] : List (List Int)), t2)) else (impl_PointOrbits.l0 k x ([] : List (List Int)) 0)
set_option maxRecDepth 100000 in
set_option maxHeartbeats 20000000 in
theorem impl_PointOrbits.calls (k : Nat) (X : List Nat) (w0 : World)  (x : Col) (r : List (List Int) × Int)
    (hp : Pre X w0 [] []) (H : impl_PointOrbits.f k x = some r) :
    Calls Try.prog 16 [.agg (Col.cells x).toArray].toArray w0 (Ret fun v w => ∃ (A_0 : Option Addr) (c_0 : Nat) (n_0 : Nat) (vs_0 : List Value), v = .tuple [.slice A_0 n_0 c_0, .int .i64 r.2].toArray ∧ Post X (fps []) w0 [.vecs A_0 c_0 43 2 n_0 vs_0 r.1] [] w) := by
  unfold impl_PointOrbits.f at H
  refine enterM (n := 40) hp Try.func16 rfl rfl (Nat.le_of_ble_eq_true rfl) fun a w ht hm => ?_
  refine wp_seq ?_
  refine wpr ?_
  refine wpl_box rfl rfl ht hm rfl rfl rfl ?_
  intro b1 a ht w hm
  refine wpl rfl rfl ht (ev_assign ht rfl rfl) ?_
  intro a ht
  refine wpl rfl rfl ht (ev_assign ht rfl rfl) ?_
  intro a ht
  refine wpList_nil ?_
  refine then_normal ?_
  refine wp_seq ?_
  refine wp_seq ?_
  refine wpr ?_
  obtain ⟨t2, et2, H⟩ := bind_get H
  have hcall := impl_Colouring_code__always.calls k _ _ b1 x _ ((fun (hq : Ms _ _ _ ([.blk b1 27 (Col.cells x)] ++ []) _ _) => hq.lend (φp := []) (allRO_nil)) (hm.pick (own' := [.blk b1 27 (Col.cells x)] ++ []) [0] rfl (by decide))) et2
  refine wpl_call _ rfl rfl ht rfl rfl rfl rfl can_23 hcall ?_
  clear hcall
  rintro _ w ⟨rfl, hpost⟩ a ht
  replace hm := (hm.pick (own' := [.blk b1 27 (Col.cells x)] ++ []) [0] rfl (by decide)).backL hpost
  clear hpost
  refine wpl rfl rfl ht (ev_assign ht rfl rfl) ?_
  intro a ht
  refine wpList_nil ?_
  refine then_normal ?_
  refine wp_seq ?_
  refine wpr ?_
  refine wpl rfl rfl ht (ev_move ht rfl rfl) ?_
  intro a ht
  refine wpl rfl rfl ht (ev_cmp ht rfl rfl rfl rfl) ?_
  intro a ht
  refine wpList_nil ?_
  refine then_normal ?_
  by_cases h3 : t2 ≠ 0
  · replace H := ite_yes h3 H
    refine wpc_yes ht rfl (decide_eq_true h3) ?_
    refine wp_seq ?_
    refine wpr ?_
    refine wpl rfl rfl ht (ev_move ht rfl rfl) ?_
    intro a ht
    refine wpl rfl rfl ht (ev_assign ht rfl rfl) ?_
    intro a ht
    refine wpl rfl rfl ht (ev_assign ht rfl rfl) ?_
    intro a ht
    refine wpList_nil ?_
    refine then_normal ?_
    refine wp_ret ?_
    refine then_ret ?_
    have hres := ht.res (P := Try.prog) (w := w) (rs := [.tmp 2, .tmp 3]) (vs := [.slice none 0 0, .int .i64 t2]) (.tmp rfl (.tmp rfl .nil))
    replace hm : Ms _ _ _ (.vecs none 0 43 2 0 ([]) ([] : List (List Int)) :: _) _ w := hm.nilVecs none 43 2
    obtain rfl := Option.some.inj H
    exact leave ht rfl hres ⟨none, 0, 0, [], rfl, ((hm.pick [0] rfl (by decide)).pickφ [] rfl).post fun _ h => h⟩
  · replace H := ite_no h3 H
    refine wpc_no ht rfl (decide_eq_false h3) ?_
    refine wp_skip ?_
    refine then_normal ?_
    refine wp_seq ?_
    refine wpr ?_
    replace hm : Ms _ _ _ _ (AllOwn w0.heap.size 2 ([]) ([] : List (List Int)) :: _) w := hm.addφ (allOwn_nil w0.heap.size 2)
    refine wpl_buildSlice (vs := []) rfl rfl ht hm rfl und_35 zo_43 sz1_43 (by decide) rfl rfl rfl ?_
    intro A5 a ht w hm
    refine wpl rfl rfl ht (ev_assign ht rfl rfl) ?_
    intro a ht
    refine wpList_nil ?_
    refine then_normal ?_
    refine wp_seq ?_
    refine wp_seq ?_
    refine wpr ?_
    refine wpl rfl rfl ht (ev_fieldAddr ht rfl rfl fo_27_0) ?_
    intro a ht
    refine wpl rfl rfl ht (ev_load ht rfl rfl sc_2 (hm.blk_cell 1 rfl rfl)) ?_
    intro a ht
    refine wpl rfl rfl ht (ev_move ht rfl rfl) ?_
    intro a ht
    refine wpList_nil ?_
    refine then_normal ?_
    refine wp_block ?_
    refine wpLoop (fun q a w => ∃ (ls0_4 : List (List Int)) (xs0_6 : Int) (As0_1 : Option Addr) (cs0_2 : Nat) (ms0_3 : Nat) (vss0_5 : List Value), impl_PointOrbits.l0 q x ls0_4 xs0_6 = some r ∧ q ≤ k ∧ Tm 40 [(1, .pointer (some ⟨b1, 0, none⟩)), (2, .slice none 0 0), (3, .int .i64 0), (5, .slice As0_1 ms0_3 cs0_2), (14, .int .i64 x.p), (15, .int .i64 xs0_6)] a ∧ Ms X (fps []) w0 [.vec As0_1 cs0_2 43 1 ms0_3 vss0_5, .blk b1 27 (Col.cells x)] [AllOwn w0.heap.size 2 vss0_5 ls0_4] w) (k0 := k) ⟨([] : List (List Int)), 0, A5, 0, 0, ([]), H, Nat.le_refl _, ht.sub ⟨rfl, rfl, rfl, rfl, rfl, rfl, trivial⟩, (hm.pick [0, 1] rfl (by decide)).pickφ [0] rfl⟩ ?_
    clear H ht hm
    intro q6 a w hJ
    obtain ⟨ls0_4, xs0_6, As0_1, cs0_2, ms0_3, vss0_5, H, hqq6, ht, hm⟩ := hJ
    cases q6 with
    | zero => cases H
    | succ q6 =>
    rw [impl_PointOrbits.l0] at H
    refine wp_seq ?_
    refine wpr ?_
    refine wpl rfl rfl ht (ev_cmp ht rfl rfl rfl rfl) ?_
    intro a ht
    refine wpList_nil ?_
    refine then_normal ?_
    refine wp_seq ?_
    by_cases h7 : xs0_6 < x.p
    · replace H := ite_yes h7 H
      refine wpc_yes ht rfl (decide_eq_true h7) ?_
      refine wp_skip ?_
      refine then_normal ?_
      refine wp_seq ?_
      refine wp_block ?_
      refine wp_seq ?_
      refine wpr ?_
      refine wpl rfl rfl ht (ev_move ht rfl rfl) ?_
      intro a ht
      refine wpl_alloc rfl rfl ht hm rfl zo_2 ?_
      intro b8 a ht w hm
      refine wpl_store_blk 0 rfl rfl ht hm rfl rfl rfl sz1_2 rfl rfl rfl ?_
      intro a ht w hm
      refine wpList_nil ?_
      refine then_normal ?_
      refine wp_seq ?_
      refine wpr ?_
      refine wpl rfl rfl ht (ev_move ht rfl rfl) ?_
      intro a ht
      refine wpl rfl rfl ht (ev_makeFunc ht rfl rfl rfl) ?_
      intro a ht
      obtain ⟨t9, et9, H⟩ := bind_get H
      have hcall := slices_IndexFunc_int64_int64__PointOrbits_1.calls q6 _ _ As0_1 cs0_2 ms0_3 vss0_5 b1 b8 ls0_4 x xs0_6 _ ((fun (hq : Ms _ _ _ ([.blk b1 27 (Col.cells x), .blk b8 2 [.int .i64 xs0_6]] ++ [.vec As0_1 cs0_2 43 1 ms0_3 vss0_5]) _ _) => hq.lend (φp := [RowsAt As0_1 cs0_2 ms0_3 vss0_5 ls0_4]) (allRO_cons (hq.lendRowsO 0 0 rfl rfl) (allRO_nil))) (hm.pick (own' := [.blk b1 27 (Col.cells x), .blk b8 2 [.int .i64 xs0_6]] ++ [.vec As0_1 cs0_2 43 1 ms0_3 vss0_5]) [2, 0, 1] rfl (by decide))) et9
      refine wpl_call _ rfl rfl ht rfl rfl rfl rfl can_37 hcall ?_
      clear hcall
      rintro _ w ⟨rfl, hpost⟩ a ht
      replace hm := (hm.pick (own' := [.blk b1 27 (Col.cells x), .blk b8 2 [.int .i64 xs0_6]] ++ [.vec As0_1 cs0_2 43 1 ms0_3 vss0_5]) [2, 0, 1] rfl (by decide)).backL hpost
      clear hpost
      refine wpl rfl rfl ht (ev_assign ht rfl rfl) ?_
      intro a ht
      refine wpList_nil ?_
      refine then_normal ?_
      refine wp_seq ?_
      refine wpr ?_
      refine wpl rfl rfl ht (ev_move ht rfl rfl) ?_
      intro a ht
      refine wpl rfl rfl ht (ev_cmp ht rfl rfl rfl rfl) ?_
      intro a ht
      refine wpList_nil ?_
      refine then_normal ?_
      by_cases h10 : t9 < 0
      · replace H := ite_yes h10 H
        refine wpc_yes ht rfl (decide_eq_true h10) ?_
        refine wpr ?_
        refine wpl rfl rfl ht (ev_move ht rfl rfl) ?_
        intro a ht
        refine wpl rfl rfl ht (ev_load ht rfl rfl sc_2 (hm.blk_cell 1 rfl rfl)) ?_
        intro a ht
        refine wpl_build_ints (l := [xs0_6]) rfl rfl ht hm rfl und_43 zo_2 sz1_2 (by decide) rfl rfl rfl ?_
        intro A11 a ht w hm
        replace hm : Ms _ _ _ _ (NewTo A11 1 vss0_5 :: _) w := hm.addφ (hm.newTo 0 0 rfl rfl)
        replace hm : Ms _ _ _ _ (OwnAt w0.heap.size 2 A11 1 1 ([xs0_6]) :: _) w := hm.shutOwn 0 (hm.ownGe 0 (Nat.le_refl _) srcNil rfl) rfl
        replace hm : Ms _ _ _ _ (AllOwn w0.heap.size 2 ([.slice A11 1 1]) ([[xs0_6]]) :: _) w := hm.addφ (allOwn_one (hm.ro 0 rfl))
        refine wpl_buildSlice (vs := [.slice A11 1 1]) rfl rfl ht hm rfl und_35 zo_43 sz1_43 (by decide) rfl rfl rfl ?_
        intro A12 a ht w hm
        obtain ⟨l17, el17, H⟩ := bind_get H
        replace hm : Ms _ _ _ _ (AllOwn w0.heap.size 2 (vss0_5 ++ ([.slice A11 1 1])) l17 :: _) w := hm.addφ (allOwn_append el17 (hm.ro 3 rfl) (hm.ro 0 rfl) (newTo_one (hm.fact (φ := NewTo A11 1 vss0_5) 2 rfl)))
        refine wpl_concat_rowsO (r := l17) 3 0 rfl rfl ht hm rfl ap_35 rfl rfl rfl rfl (hm.rowsOfO 3 4 rfl rfl) (hm.rowsOfO 0 1 rfl rfl) el17 ?_
        intro A14 c15 m16 a ht w hm
        refine wpl rfl rfl ht (ev_assign ht rfl rfl) ?_
        intro a ht
        refine wpList_nil ?_
        refine blk_normal ?_
        refine then_normal ?_
        refine wpr ?_
        refine wpl rfl rfl ht (ev_arith ht rfl rfl rfl rfl) ?_
        intro a ht
        refine wpl rfl rfl ht (ev_move ht rfl rfl) ?_
        intro a ht
        refine wpList_nil ?_
        exact then_normal ⟨q6, by omega, l17, (w64 (xs0_6 + 1)), A14, c15, m16, (vss0_5 ++ ([.slice A11 1 1])), H, by omega, ht.sub ⟨rfl, rfl, rfl, rfl, rfl, rfl, trivial⟩, (hm.pick [3, 1] rfl (by decide)).pickφ [0] rfl⟩
      · replace H := ite_no h10 H
        refine wpc_no ht rfl (decide_eq_false h10) ?_
        refine wph_begin (fun w => Ms X (fps []) w0 [.blk b1 27 (Col.cells x), .blk b8 2 [.int .i64 xs0_6]] [] w) mixed ?_
        replace hm := hm.drew
        have hS : Ms X (fps []) w0 [.blk b1 27 (Col.cells x), .blk b8 2 [.int .i64 xs0_6]] [] w.drew := (hm.pick [0, 1] rfl (by decide)).pickφ [] rfl
        generalize w.drew = w at hm hS ⊢
        refine wph_take (i := 0) rfl (by kernel_rfl) (by kernel_rfl) (by kernel_rfl) (fun _ _ _ h => h) rfl ht hS (wanted_plain rfl) (fun w hm => ev_move ht rfl rfl) ?_
        intro a ht
        refine wph_take (i := 1) rfl (by kernel_rfl) (by kernel_rfl) (by kernel_rfl) (fun _ _ _ h => h) rfl ht hS (wanted_plain rfl) (fun w hm => ev_move ht rfl rfl) ?_
        intro a ht
        refine wph_take (i := 2) rfl (by kernel_rfl) (by kernel_rfl) (by kernel_rfl) (fun _ _ _ h => h) rfl ht hS (wanted_plain rfl) (fun w hm => ev_move ht rfl rfl) ?_
        intro a ht
        refine wph_take (i := 3) rfl (by kernel_rfl) (by kernel_rfl) (by kernel_rfl) (fun _ _ _ h => h) rfl ht hS (wanted_plain rfl) (fun w hm => ev_move ht rfl rfl) ?_
        intro a ht
        refine wph_take (i := 6) rfl (by kernel_rfl) (by kernel_rfl) (by kernel_rfl) (fun _ _ _ h => h) rfl ht hS (wanted_plain rfl) (fun w hm => ev_load ht rfl rfl sc_2 (hm.blk_cell 1 rfl rfl)) ?_
        intro a ht
        refine wph_two (i := 4) (j := 7) (by kernel_rfl) ?_ ?_ 
        · refine wph_step rfl ?_
          obtain ⟨l4518, el4518, H⟩ := bind_get H
          refine wpl rfl rfl ht (ev_index_rows ht rfl rfl rfl so_35 (hm.rowsOfO 2 0 rfl rfl) el4518) ?_
          intro a ht
          have hS : Ms X (fps []) w0 [.blk b1 27 (Col.cells x), .blk b8 2 [.int .i64 xs0_6]] [] w := (hm.pick [0, 1] rfl (by decide)).pickφ [] rfl
          refine wpList_nil (qn ⟨hS, ?_⟩)
          refine wph_two (i := 5) (j := 7) (by kernel_rfl) ?_ ?_ 
          · refine wph_step rfl ?_
            obtain ⟨A5518, c5519, m5520, hv5521, hI⟩ := rowsAt_get (hm.rowsOfO 2 0 rfl rfl) el4518
            refine wpl rfl rfl ht (ev_load ht rfl rfl sc_43 (RowsAt.cell (hm.rowsOfO 2 0 rfl rfl) hv5521)) ?_
            intro a ht
            clear hI
            replace hm : Ms _ _ _ (.vec A5518 c5519 2 1 m5520 (ints l4518) :: _) [AllOwn w0.heap.size 2 (vss0_5.set t9.toNat (.slice none 0 0)) (ls0_4.set t9.toNat [])] w := hm.takeRow 0 (Nat.le_refl _) rfl hv5521 (getR_get el4518)
            have hS : Ms X (fps []) w0 [.blk b1 27 (Col.cells x), .blk b8 2 [.int .i64 xs0_6]] [] w := (hm.pick [1, 2] rfl (by decide)).pickφ [] rfl
            refine wpList_nil (qn ⟨hS, ?_⟩)
            refine wph_one (i := 7) (by kernel_rfl) (wph_step rfl ?_)
            refine wpl_build_ints (l := [xs0_6]) rfl rfl ht hm rfl und_43 zo_2 sz1_2 (by decide) rfl rfl rfl ?_
            intro A7518 a ht w hm
            have hS : Ms X (fps []) w0 [.blk b1 27 (Col.cells x), .blk b8 2 [.int .i64 xs0_6]] [] w := (hm.pick [2, 3] rfl (by decide)).pickφ [] rfl
            refine wpList_nil (qn ⟨hS, ?_⟩)
            refine wph_one (i := 8) (by kernel_rfl) (wph_step rfl ?_)
            obtain ⟨l8521, el8521, H⟩ := bind_get H
            refine wpl_push (r := l8521) 1 0 rfl rfl ht hm rfl ap_43 rfl rfl rfl rfl el8521 ?_
            intro A8518 c8519 m8520 a ht w hm
            have hS : Ms X (fps []) w0 [.blk b1 27 (Col.cells x), .blk b8 2 [.int .i64 xs0_6]] [] w := (hm.pick [2, 3] rfl (by decide)).pickφ [] rfl
            refine wpList_nil (qn ⟨hS, ?_⟩)
            refine wph_one (i := 9) (by kernel_rfl) (wph_step rfl ?_)
            obtain ⟨l9518, el9518, H⟩ := bind_get H
            refine wpl rfl rfl ht (ev_index_rowsH ht rfl rfl rfl so_35 (hm.vec_row 4 rfl) (hm.fact (φ := AllOwn w0.heap.size 2 (vss0_5.set t9.toNat (.slice none 0 0)) (ls0_4.set t9.toNat [])) 0 rfl) el9518) ?_
            intro a ht
            have hS : Ms X (fps []) w0 [.blk b1 27 (Col.cells x), .blk b8 2 [.int .i64 xs0_6]] [] w := (hm.pick [2, 3] rfl (by decide)).pickφ [] rfl
            refine wpList_nil (qn ⟨hS, ?_⟩)
            refine wph_one (i := 10) (by kernel_rfl) (wph_step rfl ?_)
            replace hm : Ms _ _ _ _ (NewTo A8518 c8519 (vss0_5.set t9.toNat (.slice none 0 0)) :: _) w := hm.addφ (hm.newTo 1 0 rfl rfl)
            replace hm : Ms _ _ _ _ (OwnAt w0.heap.size 2 A8518 c8519 m8520 l8521 :: _) w := hm.shutOwn 1 (hm.ownGe 1 (Nat.le_refl _) srcNil rfl) rfl
            replace hm : Ms _ _ _ _ (AllOwn w0.heap.size 2 (vss0_5.set t9.toNat (.slice A8518 m8520 c8519)) (ls0_4.set t9.toNat l8521) :: _) w := hm.addφ (allOwn_put t9.toNat (hm.ro 2 rfl) (hm.ro 0 rfl) (hm.fact (φ := NewTo A8518 c8519 (vss0_5.set t9.toNat (.slice none 0 0))) 1 rfl))
            refine wpl_store_vec 3 rfl rfl ht hm rfl rfl rfl sz1_43 rfl rfl hv5521 ?_
            intro a ht w hm
            have hS : Ms X (fps []) w0 [.blk b1 27 (Col.cells x), .blk b8 2 [.int .i64 xs0_6]] [] w := (hm.pick [1, 2] rfl (by decide)).pickφ [] rfl
            refine wpList_nil (qn ⟨hS, ?_⟩)
            refine wph_done (by kernel_rfl) ?_
            refine blk_normal ?_
            refine then_normal ?_
            refine wpr ?_
            refine wpl rfl rfl ht (ev_arith ht rfl rfl rfl rfl) ?_
            intro a ht
            refine wpl rfl rfl ht (ev_move ht rfl rfl) ?_
            intro a ht
            refine wpList_nil ?_
            exact then_normal ⟨q6, by omega, (ls0_4.set t9.toNat l8521), (w64 (xs0_6 + 1)), As0_1, cs0_2, ms0_3, (vss0_5.set t9.toNat (.slice A8518 m8520 c8519)), H, by omega, ht.sub ⟨rfl, rfl, rfl, rfl, rfl, rfl, trivial⟩, (hm.pick [3, 1] rfl (by decide)).pickφ [0] rfl⟩
          · refine wph_step rfl ?_
            refine wpl_build_ints (l := [xs0_6]) rfl rfl ht hm rfl und_43 zo_2 sz1_2 (by decide) rfl rfl rfl ?_
            intro A7518 a ht w hm
            have hS : Ms X (fps []) w0 [.blk b1 27 (Col.cells x), .blk b8 2 [.int .i64 xs0_6]] [] w := (hm.pick [1, 2] rfl (by decide)).pickφ [] rfl
            refine wpList_nil (qn ⟨hS, ?_⟩)
            refine wph_one (i := 5) (by kernel_rfl) (wph_step rfl ?_)
            obtain ⟨A5518, c5519, m5520, hv5521, hI⟩ := rowsAt_get (hm.rowsOfO 3 0 rfl rfl) el4518
            refine wpl rfl rfl ht (ev_load ht rfl rfl sc_43 (RowsAt.cell (hm.rowsOfO 3 0 rfl rfl) hv5521)) ?_
            intro a ht
            clear hI
            replace hm : Ms _ _ _ (.vec A5518 c5519 2 1 m5520 (ints l4518) :: _) [AllOwn w0.heap.size 2 (vss0_5.set t9.toNat (.slice none 0 0)) (ls0_4.set t9.toNat [])] w := hm.takeRow 0 (Nat.le_refl _) rfl hv5521 (getR_get el4518)
            have hS : Ms X (fps []) w0 [.blk b1 27 (Col.cells x), .blk b8 2 [.int .i64 xs0_6]] [] w := (hm.pick [2, 3] rfl (by decide)).pickφ [] rfl
            refine wpList_nil (qn ⟨hS, ?_⟩)
            refine wph_one (i := 8) (by kernel_rfl) (wph_step rfl ?_)
            obtain ⟨l8521, el8521, H⟩ := bind_get H
            refine wpl_push (r := l8521) 0 1 rfl rfl ht hm rfl ap_43 rfl rfl rfl rfl el8521 ?_
            intro A8518 c8519 m8520 a ht w hm
            have hS : Ms X (fps []) w0 [.blk b1 27 (Col.cells x), .blk b8 2 [.int .i64 xs0_6]] [] w := (hm.pick [2, 3] rfl (by decide)).pickφ [] rfl
            refine wpList_nil (qn ⟨hS, ?_⟩)
            refine wph_one (i := 9) (by kernel_rfl) (wph_step rfl ?_)
            obtain ⟨l9518, el9518, H⟩ := bind_get H
            refine wpl rfl rfl ht (ev_index_rowsH ht rfl rfl rfl so_35 (hm.vec_row 4 rfl) (hm.fact (φ := AllOwn w0.heap.size 2 (vss0_5.set t9.toNat (.slice none 0 0)) (ls0_4.set t9.toNat [])) 0 rfl) el9518) ?_
            intro a ht
            have hS : Ms X (fps []) w0 [.blk b1 27 (Col.cells x), .blk b8 2 [.int .i64 xs0_6]] [] w := (hm.pick [2, 3] rfl (by decide)).pickφ [] rfl
            refine wpList_nil (qn ⟨hS, ?_⟩)
            refine wph_one (i := 10) (by kernel_rfl) (wph_step rfl ?_)
            replace hm : Ms _ _ _ _ (NewTo A8518 c8519 (vss0_5.set t9.toNat (.slice none 0 0)) :: _) w := hm.addφ (hm.newTo 0 0 rfl rfl)
            replace hm : Ms _ _ _ _ (OwnAt w0.heap.size 2 A8518 c8519 m8520 l8521 :: _) w := hm.shutOwn 0 (hm.ownGe 0 (Nat.le_refl _) srcNil rfl) rfl
            replace hm : Ms _ _ _ _ (AllOwn w0.heap.size 2 (vss0_5.set t9.toNat (.slice A8518 m8520 c8519)) (ls0_4.set t9.toNat l8521) :: _) w := hm.addφ (allOwn_put t9.toNat (hm.ro 2 rfl) (hm.ro 0 rfl) (hm.fact (φ := NewTo A8518 c8519 (vss0_5.set t9.toNat (.slice none 0 0))) 1 rfl))
            refine wpl_store_vec 3 rfl rfl ht hm rfl rfl rfl sz1_43 rfl rfl hv5521 ?_
            intro a ht w hm
            have hS : Ms X (fps []) w0 [.blk b1 27 (Col.cells x), .blk b8 2 [.int .i64 xs0_6]] [] w := (hm.pick [1, 2] rfl (by decide)).pickφ [] rfl
            refine wpList_nil (qn ⟨hS, ?_⟩)
            refine wph_done (by kernel_rfl) ?_
            refine blk_normal ?_
            refine then_normal ?_
            refine wpr ?_
            refine wpl rfl rfl ht (ev_arith ht rfl rfl rfl rfl) ?_
            intro a ht
            refine wpl rfl rfl ht (ev_move ht rfl rfl) ?_
            intro a ht
            refine wpList_nil ?_
            exact then_normal ⟨q6, by omega, (ls0_4.set t9.toNat l8521), (w64 (xs0_6 + 1)), As0_1, cs0_2, ms0_3, (vss0_5.set t9.toNat (.slice A8518 m8520 c8519)), H, by omega, ht.sub ⟨rfl, rfl, rfl, rfl, rfl, rfl, trivial⟩, (hm.pick [3, 1] rfl (by decide)).pickφ [0] rfl⟩
        · refine wph_step rfl ?_
          refine wpl_build_ints (l := [xs0_6]) rfl rfl ht hm rfl und_43 zo_2 sz1_2 (by decide) rfl rfl rfl ?_
          intro A7518 a ht w hm
          have hS : Ms X (fps []) w0 [.blk b1 27 (Col.cells x), .blk b8 2 [.int .i64 xs0_6]] [] w := (hm.pick [1, 2] rfl (by decide)).pickφ [] rfl
          refine wpList_nil (qn ⟨hS, ?_⟩)
          refine wph_one (i := 4) (by kernel_rfl) (wph_step rfl ?_)
          obtain ⟨l4518, el4518, H⟩ := bind_get H
          refine wpl rfl rfl ht (ev_index_rows ht rfl rfl rfl so_35 (hm.rowsOfO 3 0 rfl rfl) el4518) ?_
          intro a ht
          have hS : Ms X (fps []) w0 [.blk b1 27 (Col.cells x), .blk b8 2 [.int .i64 xs0_6]] [] w := (hm.pick [1, 2] rfl (by decide)).pickφ [] rfl
          refine wpList_nil (qn ⟨hS, ?_⟩)
          refine wph_one (i := 5) (by kernel_rfl) (wph_step rfl ?_)
          obtain ⟨A5518, c5519, m5520, hv5521, hI⟩ := rowsAt_get (hm.rowsOfO 3 0 rfl rfl) el4518
          refine wpl rfl rfl ht (ev_load ht rfl rfl sc_43 (RowsAt.cell (hm.rowsOfO 3 0 rfl rfl) hv5521)) ?_
          intro a ht
          clear hI
          replace hm : Ms _ _ _ (.vec A5518 c5519 2 1 m5520 (ints l4518) :: _) [AllOwn w0.heap.size 2 (vss0_5.set t9.toNat (.slice none 0 0)) (ls0_4.set t9.toNat [])] w := hm.takeRow 0 (Nat.le_refl _) rfl hv5521 (getR_get el4518)
          have hS : Ms X (fps []) w0 [.blk b1 27 (Col.cells x), .blk b8 2 [.int .i64 xs0_6]] [] w := (hm.pick [2, 3] rfl (by decide)).pickφ [] rfl
          refine wpList_nil (qn ⟨hS, ?_⟩)
          refine wph_one (i := 8) (by kernel_rfl) (wph_step rfl ?_)
          obtain ⟨l8521, el8521, H⟩ := bind_get H
          refine wpl_push (r := l8521) 0 1 rfl rfl ht hm rfl ap_43 rfl rfl rfl rfl el8521 ?_
          intro A8518 c8519 m8520 a ht w hm
          have hS : Ms X (fps []) w0 [.blk b1 27 (Col.cells x), .blk b8 2 [.int .i64 xs0_6]] [] w := (hm.pick [2, 3] rfl (by decide)).pickφ [] rfl
          refine wpList_nil (qn ⟨hS, ?_⟩)
          refine wph_one (i := 9) (by kernel_rfl) (wph_step rfl ?_)
          obtain ⟨l9518, el9518, H⟩ := bind_get H
          refine wpl rfl rfl ht (ev_index_rowsH ht rfl rfl rfl so_35 (hm.vec_row 4 rfl) (hm.fact (φ := AllOwn w0.heap.size 2 (vss0_5.set t9.toNat (.slice none 0 0)) (ls0_4.set t9.toNat [])) 0 rfl) el9518) ?_
          intro a ht
          have hS : Ms X (fps []) w0 [.blk b1 27 (Col.cells x), .blk b8 2 [.int .i64 xs0_6]] [] w := (hm.pick [2, 3] rfl (by decide)).pickφ [] rfl
          refine wpList_nil (qn ⟨hS, ?_⟩)
          refine wph_one (i := 10) (by kernel_rfl) (wph_step rfl ?_)
          replace hm : Ms _ _ _ _ (NewTo A8518 c8519 (vss0_5.set t9.toNat (.slice none 0 0)) :: _) w := hm.addφ (hm.newTo 0 0 rfl rfl)
          replace hm : Ms _ _ _ _ (OwnAt w0.heap.size 2 A8518 c8519 m8520 l8521 :: _) w := hm.shutOwn 0 (hm.ownGe 0 (Nat.le_refl _) srcNil rfl) rfl
          replace hm : Ms _ _ _ _ (AllOwn w0.heap.size 2 (vss0_5.set t9.toNat (.slice A8518 m8520 c8519)) (ls0_4.set t9.toNat l8521) :: _) w := hm.addφ (allOwn_put t9.toNat (hm.ro 2 rfl) (hm.ro 0 rfl) (hm.fact (φ := NewTo A8518 c8519 (vss0_5.set t9.toNat (.slice none 0 0))) 1 rfl))
          refine wpl_store_vec 3 rfl rfl ht hm rfl rfl rfl sz1_43 rfl rfl hv5521 ?_
          intro a ht w hm
          have hS : Ms X (fps []) w0 [.blk b1 27 (Col.cells x), .blk b8 2 [.int .i64 xs0_6]] [] w := (hm.pick [1, 2] rfl (by decide)).pickφ [] rfl
          refine wpList_nil (qn ⟨hS, ?_⟩)
          refine wph_done (by kernel_rfl) ?_
          refine blk_normal ?_
          refine then_normal ?_
          refine wpr ?_
          refine wpl rfl rfl ht (ev_arith ht rfl rfl rfl rfl) ?_
          intro a ht
          refine wpl rfl rfl ht (ev_move ht rfl rfl) ?_
          intro a ht
          refine wpList_nil ?_
          exact then_normal ⟨q6, by omega, (ls0_4.set t9.toNat l8521), (w64 (xs0_6 + 1)), As0_1, cs0_2, ms0_3, (vss0_5.set t9.toNat (.slice A8518 m8520 c8519)), H, by omega, ht.sub ⟨rfl, rfl, rfl, rfl, rfl, rfl, trivial⟩, (hm.pick [3, 1] rfl (by decide)).pickφ [0] rfl⟩
    · replace H := ite_no h7 H
      refine wpc_no ht rfl (decide_eq_false h7) ?_
      refine wp_exit ?_
      refine then_exit ?_
      refine then_exit ?_
      refine blk_hit ?_
      refine then_normal ?_
      refine wp_seq ?_
      refine wpr ?_
      refine wpl rfl rfl ht (ev_move ht rfl rfl) ?_
      intro a ht
      refine wpl rfl rfl ht (ev_assign ht rfl rfl) ?_
      intro a ht
      refine wpl rfl rfl ht (ev_assign ht rfl rfl) ?_
      intro a ht
      refine wpList_nil ?_
      refine then_normal ?_
      refine wp_ret ?_
      have hres := ht.res (P := Try.prog) (w := w) (rs := [.tmp 2, .tmp 3]) (vs := [.slice As0_1 ms0_3 cs0_2, .int .i64 0]) (.tmp rfl (.tmp rfl .nil))
      replace hm := hm.gather (E2 := 2) 0 0 (Nat.le_refl _) rfl rfl
      obtain rfl := Option.some.inj H
      exact leave ht rfl hres ⟨As0_1, cs0_2, ms0_3, vss0_5, rfl, ((hm.pick [0] rfl (by decide)).pickφ [] rfl).post fun _ h => h⟩

/-! ### laws_eqInt64S: function 40 (loop.example/g01362/laws.eqInt64S) -/
def laws_eqInt64S.l0 : Nat → List Int → List Int → Int → Option (Bool)
  | 0, _, _, _ => none
  | q2 + 1, a_, b, xs0_1 => if xs0_1 < (a_.length : Int) then ((getI a_ xs0_1).bind fun t4 => (getI b xs0_1).bind fun t5 => if t4 ≠ t5 then (some false) else (laws_eqInt64S.l0 q2 a_ b (w64 (xs0_1 + 1)))) else (some true)
def laws_eqInt64S.f (k : Nat) (a_ : List Int) (b : List Int) : Option (Bool) := if (a_.length : Int) ≠ (b.length : Int) then (some false) else (laws_eqInt64S.l0 k a_ b 0)
set_option maxRecDepth 100000 in
set_option maxHeartbeats 20000000 in
theorem laws_eqInt64S.calls (k : Nat) (X : List Nat) (w0 : World) (A : Option Addr) (c : Nat) (m : Nat) (A2 : Option Addr) (c2 : Nat) (m2 : Nat) (a_ : List Int) (b : List Int) (r : Bool)
    (hp : Pre X w0 [] [IntsAt A c m a_, IntsAt A2 c2 m2 b]) (H : laws_eqInt64S.f k a_ b = some r) :
    Calls Try.prog 40 [.slice A m c, .slice A2 m2 c2].toArray w0 (Ret fun v w => v = .bool r ∧ Post X (fps []) w0 [] [] w) := by
  unfold laws_eqInt64S.f at H
  refine enterM (n := 26) hp Try.func40 rfl rfl (Nat.le_of_ble_eq_true rfl) fun a w ht hm => ?_
  refine wp_seq ?_
  refine wpr ?_
  refine wpl rfl rfl ht (ev_assign ht rfl rfl) ?_
  intro a ht
  refine wpList_nil ?_
  refine then_normal ?_
  refine wp_seq ?_
  refine wp_seq ?_
  refine wpr ?_
  refine wpl rfl rfl ht (ev_move ht rfl rfl) ?_
  intro a ht
  refine wpl rfl rfl ht (ev_len_of ht rfl rfl und_43 (hm.fact (φ := IntsAt A c m a_) 0 rfl)) ?_
  intro a ht
  refine wpl rfl rfl ht (ev_move ht rfl rfl) ?_
  intro a ht
  refine wpl rfl rfl ht (ev_len_of ht rfl rfl und_43 (hm.fact (φ := IntsAt A2 c2 m2 b) 1 rfl)) ?_
  intro a ht
  refine wpl rfl rfl ht (ev_cmp ht rfl rfl rfl rfl) ?_
  intro a ht
  refine wpList_nil ?_
  refine then_normal ?_
  by_cases h1 : (a_.length : Int) ≠ (b.length : Int)
  · replace H := ite_yes h1 H
    refine wpc_yes ht rfl (decide_eq_true h1) ?_
    refine wp_seq ?_
    refine wpr ?_
    refine wpl rfl rfl ht (ev_assign ht rfl rfl) ?_
    intro a ht
    refine wpList_nil ?_
    refine then_normal ?_
    refine wp_ret ?_
    refine then_ret ?_
    have hres := ht.res (P := Try.prog) (w := w) (rs := [.tmp 4]) (vs := [.bool false]) (.tmp rfl .nil)
    obtain rfl := Option.some.inj H
    exact leave ht rfl hres ⟨rfl, ((hm.pick [] rfl (by decide)).pickφ [] rfl).post fun _ h => h⟩
  · replace H := ite_no h1 H
    refine wpc_no ht rfl (decide_eq_false h1) ?_
    refine wp_skip ?_
    refine then_normal ?_
    refine wp_seq ?_
    refine wp_seq ?_
    refine wpr ?_
    refine wpl rfl rfl ht (ev_assign ht rfl rfl) ?_
    intro a ht
    refine wpList_nil ?_
    refine then_normal ?_
    refine wp_block ?_
    refine wpLoop (fun q a w => ∃ (xs0_1 : Int), laws_eqInt64S.l0 q a_ b xs0_1 = some r ∧ q ≤ k ∧ Tm 26 [(0, .slice A m c), (1, .slice A2 m2 c2), (4, .bool false), (5, .int .i64 xs0_1)] a ∧ Ms X (fps []) w0 [] [IntsAt A c m a_, IntsAt A2 c2 m2 b] w) (k0 := k) ⟨0, H, Nat.le_refl _, ht.sub ⟨rfl, rfl, rfl, rfl, trivial⟩, (hm.pick [] rfl (by decide)).pickφ [0, 1] rfl⟩ ?_
    clear H ht hm
    intro q2 a w hJ
    obtain ⟨xs0_1, H, hqq2, ht, hm⟩ := hJ
    cases q2 with
    | zero => cases H
    | succ q2 =>
    rw [laws_eqInt64S.l0] at H
    refine wp_seq ?_
    refine wp_seq ?_
    refine wpr ?_
    refine wpl rfl rfl ht (ev_move ht rfl rfl) ?_
    intro a ht
    refine wpl rfl rfl ht (ev_move ht rfl rfl) ?_
    intro a ht
    refine wpl rfl rfl ht (ev_len_of ht rfl rfl und_43 (hm.fact (φ := IntsAt A c m a_) 0 rfl)) ?_
    intro a ht
    refine wpl rfl rfl ht (ev_cmp ht rfl rfl rfl rfl) ?_
    intro a ht
    refine wpList_nil ?_
    refine then_normal ?_
    by_cases h3 : xs0_1 < (a_.length : Int)
    · replace H := ite_yes h3 H
      refine wpc_yes ht rfl (decide_eq_true h3) ?_
      refine wp_skip ?_
      refine then_normal ?_
      refine wp_seq ?_
      refine wp_block ?_
      refine wp_seq ?_
      refine wph_begin (fun w => Ms X (fps []) w0 [] [IntsAt A c m a_, IntsAt A2 c2 m2 b] w) mixed ?_
      replace hm := hm.drew
      have hS : Ms X (fps []) w0 [] [IntsAt A c m a_, IntsAt A2 c2 m2 b] w.drew := (hm.pick [] rfl (by decide)).pickφ [0, 1] rfl
      generalize w.drew = w at hm hS ⊢
      refine wph_take (i := 0) rfl (by kernel_rfl) (by kernel_rfl) (by kernel_rfl) (fun _ _ _ h => h) rfl ht hS (wanted_plain rfl) (fun w hm => ev_move ht rfl rfl) ?_
      intro a ht
      refine wph_take (i := 1) rfl (by kernel_rfl) (by kernel_rfl) (by kernel_rfl) (fun _ _ _ h => h) rfl ht hS (wanted_plain rfl) (fun w hm => ev_move ht rfl rfl) ?_
      intro a ht
      obtain ⟨t4, et4, H⟩ := bind_get H
      refine wph_take (i := 2) rfl (by kernel_rfl) (by kernel_rfl) (by kernel_rfl) (fun _ _ _ h => h) rfl ht hS (wanted_plain rfl) (fun w hm => ev_index_ints ht rfl rfl rfl so_43 (hm.fact (φ := IntsAt A c m a_) 0 rfl) et4) ?_
      intro a ht
      refine wph_take (i := 3) rfl (by kernel_rfl) (by kernel_rfl) (by kernel_rfl) (fun _ _ _ h => h) rfl ht hS (wanted_plain rfl) (fun w hm => ev_load ht rfl rfl sc_2 (RowAt.cell (hm.fact (φ := IntsAt A c m a_) 0 rfl) (ints_get et4) rfl)) ?_
      intro a ht
      refine wph_take (i := 4) rfl (by kernel_rfl) (by kernel_rfl) (by kernel_rfl) (fun _ _ _ h => h) rfl ht hS (wanted_plain rfl) (fun w hm => ev_move ht rfl rfl) ?_
      intro a ht
      refine wph_take (i := 5) rfl (by kernel_rfl) (by kernel_rfl) (by kernel_rfl) (fun _ _ _ h => h) rfl ht hS (wanted_plain rfl) (fun w hm => ev_move ht rfl rfl) ?_
      intro a ht
      obtain ⟨t5, et5, H⟩ := bind_get H
      refine wph_take (i := 6) rfl (by kernel_rfl) (by kernel_rfl) (by kernel_rfl) (fun _ _ _ h => h) rfl ht hS (wanted_plain rfl) (fun w hm => ev_index_ints ht rfl rfl rfl so_43 (hm.fact (φ := IntsAt A2 c2 m2 b) 1 rfl) et5) ?_
      intro a ht
      refine wph_take (i := 7) rfl (by kernel_rfl) (by kernel_rfl) (by kernel_rfl) (fun _ _ _ h => h) rfl ht hS (wanted_plain rfl) (fun w hm => ev_load ht rfl rfl sc_2 (RowAt.cell (hm.fact (φ := IntsAt A2 c2 m2 b) 1 rfl) (ints_get et5) rfl)) ?_
      intro a ht
      refine wph_take (i := 8) rfl (by kernel_rfl) (by kernel_rfl) (by kernel_rfl) (fun _ _ _ h => h) rfl ht hS (wanted_plain rfl) (fun w hm => ev_cmp ht rfl rfl rfl rfl) ?_
      intro a ht
      refine wph_done (by kernel_rfl) ?_
      refine then_normal ?_
      by_cases h6 : t4 ≠ t5
      · replace H := ite_yes h6 H
        refine wpc_yes ht rfl (decide_eq_true h6) ?_
        refine wp_seq ?_
        refine wpr ?_
        refine wpl rfl rfl ht (ev_assign ht rfl rfl) ?_
        intro a ht
        refine wpList_nil ?_
        refine then_normal ?_
        refine wp_ret ?_
        refine blk_ret ?_
        refine then_ret ?_
        refine then_ret ?_
        refine blk_ret ?_
        refine then_ret ?_
        have hres := ht.res (P := Try.prog) (w := w) (rs := [.tmp 4]) (vs := [.bool false]) (.tmp rfl .nil)
        obtain rfl := Option.some.inj H
        exact leave ht rfl hres ⟨rfl, ((hm.pick [] rfl (by decide)).pickφ [] rfl).post fun _ h => h⟩
      · replace H := ite_no h6 H
        refine wpc_no ht rfl (decide_eq_false h6) ?_
        refine wp_skip ?_
        refine blk_normal ?_
        refine then_normal ?_
        refine wpr ?_
        refine wpl rfl rfl ht (ev_move ht rfl rfl) ?_
        intro a ht
        refine wpl rfl rfl ht (ev_arith ht rfl rfl rfl rfl) ?_
        intro a ht
        refine wpl rfl rfl ht (ev_assign ht rfl rfl) ?_
        intro a ht
        refine wpList_nil ?_
        exact then_normal ⟨q2, by omega, (w64 (xs0_1 + 1)), H, by omega, ht.sub ⟨rfl, rfl, rfl, rfl, trivial⟩, (hm.pick [] rfl (by decide)).pickφ [0, 1] rfl⟩
    · replace H := ite_no h3 H
      refine wpc_no ht rfl (decide_eq_false h3) ?_
      refine wp_exit ?_
      refine then_exit ?_
      refine then_exit ?_
      refine blk_hit ?_
      refine then_normal ?_
      refine wp_seq ?_
      refine wpr ?_
      refine wpl rfl rfl ht (ev_assign ht rfl rfl) ?_
      intro a ht
      refine wpList_nil ?_
      refine then_normal ?_
      refine wp_ret ?_
      have hres := ht.res (P := Try.prog) (w := w) (rs := [.tmp 4]) (vs := [.bool true]) (.tmp rfl .nil)
      obtain rfl := Option.some.inj H
      exact leave ht rfl hres ⟨rfl, ((hm.pick [] rfl (by decide)).pickφ [] rfl).post fun _ h => h⟩

/-! ### laws_eqInt64SS: function 17 (loop.example/g01362/laws.eqInt64SS) -/
def laws_eqInt64SS.l0 : Nat → List (List Int) → List (List Int) → Int → Option (Bool)
  | 0, _, _, _ => none
  | q2 + 1, a_, b, xs0_1 => if xs0_1 < (a_.length : Int) then ((getR a_ xs0_1).bind fun l4 => (getR b xs0_1).bind fun l9 => (laws_eqInt64S.f q2 l4 l9).bind fun t14 => if t14 = true then (laws_eqInt64SS.l0 q2 a_ b (w64 (xs0_1 + 1))) else (some false)) else (some true)
def laws_eqInt64SS.f (k : Nat) (a_ : List (List Int)) (b : List (List Int)) : Option (Bool) := if (a_.length : Int) ≠ (b.length : Int) then (some false) else (laws_eqInt64SS.l0 k a_ b 0)
set_option maxRecDepth 100000 in
set_option maxHeartbeats 20000000 in
theorem laws_eqInt64SS.calls (k : Nat) (X : List Nat) (w0 : World) (A : Option Addr) (c : Nat) (m : Nat) (vs : List Value) (A2 : Option Addr) (c2 : Nat) (m2 : Nat) (vs2 : List Value) (a_ : List (List Int)) (b : List (List Int)) (r : Bool)
    (hp : Pre X w0 [] [RowsAt A c m vs a_, RowsAt A2 c2 m2 vs2 b]) (H : laws_eqInt64SS.f k a_ b = some r) :
    Calls Try.prog 17 [.slice A m c, .slice A2 m2 c2].toArray w0 (Ret fun v w => v = .bool r ∧ Post X (fps []) w0 [] [] w) := by
  unfold laws_eqInt64SS.f at H
  refine enterM (n := 27) hp Try.func17 rfl rfl (Nat.le_of_ble_eq_true rfl) fun a w ht hm => ?_
  refine wp_seq ?_
  refine wpr ?_
  refine wpl rfl rfl ht (ev_assign ht rfl rfl) ?_
  intro a ht
  refine wpList_nil ?_
  refine then_normal ?_
  refine wp_seq ?_
  refine wp_seq ?_
  refine wpr ?_
  refine wpl rfl rfl ht (ev_move ht rfl rfl) ?_
  intro a ht
  refine wpl rfl rfl ht (ev_len_rows ht rfl rfl und_35 (hm.fact (φ := RowsAt A c m vs a_) 0 rfl)) ?_
  intro a ht
  refine wpl rfl rfl ht (ev_move ht rfl rfl) ?_
  intro a ht
  refine wpl rfl rfl ht (ev_len_rows ht rfl rfl und_35 (hm.fact (φ := RowsAt A2 c2 m2 vs2 b) 1 rfl)) ?_
  intro a ht
  refine wpl rfl rfl ht (ev_cmp ht rfl rfl rfl rfl) ?_
  intro a ht
  refine wpList_nil ?_
  refine then_normal ?_
  by_cases h1 : (a_.length : Int) ≠ (b.length : Int)
  · replace H := ite_yes h1 H
    refine wpc_yes ht rfl (decide_eq_true h1) ?_
    refine wp_seq ?_
    refine wpr ?_
    refine wpl rfl rfl ht (ev_assign ht rfl rfl) ?_
    intro a ht
    refine wpList_nil ?_
    refine then_normal ?_
    refine wp_ret ?_
    refine then_ret ?_
    have hres := ht.res (P := Try.prog) (w := w) (rs := [.tmp 4]) (vs := [.bool false]) (.tmp rfl .nil)
    obtain rfl := Option.some.inj H
    exact leave ht rfl hres ⟨rfl, ((hm.pick [] rfl (by decide)).pickφ [] rfl).post fun _ h => h⟩
  · replace H := ite_no h1 H
    refine wpc_no ht rfl (decide_eq_false h1) ?_
    refine wp_skip ?_
    refine then_normal ?_
    refine wp_seq ?_
    refine wp_seq ?_
    refine wpr ?_
    refine wpl rfl rfl ht (ev_assign ht rfl rfl) ?_
    intro a ht
    refine wpList_nil ?_
    refine then_normal ?_
    refine wp_block ?_
    refine wpLoop (fun q a w => ∃ (xs0_1 : Int), laws_eqInt64SS.l0 q a_ b xs0_1 = some r ∧ q ≤ k ∧ Tm 27 [(0, .slice A m c), (1, .slice A2 m2 c2), (4, .bool false), (5, .int .i64 xs0_1)] a ∧ Ms X (fps []) w0 [] [RowsAt A c m vs a_, RowsAt A2 c2 m2 vs2 b] w) (k0 := k) ⟨0, H, Nat.le_refl _, ht.sub ⟨rfl, rfl, rfl, rfl, trivial⟩, (hm.pick [] rfl (by decide)).pickφ [0, 1] rfl⟩ ?_
    clear H ht hm
    intro q2 a w hJ
    obtain ⟨xs0_1, H, hqq2, ht, hm⟩ := hJ
    cases q2 with
    | zero => cases H
    | succ q2 =>
    rw [laws_eqInt64SS.l0] at H
    refine wp_seq ?_
    refine wp_seq ?_
    refine wpr ?_
    refine wpl rfl rfl ht (ev_move ht rfl rfl) ?_
    intro a ht
    refine wpl rfl rfl ht (ev_move ht rfl rfl) ?_
    intro a ht
    refine wpl rfl rfl ht (ev_len_rows ht rfl rfl und_35 (hm.fact (φ := RowsAt A c m vs a_) 0 rfl)) ?_
    intro a ht
    refine wpl rfl rfl ht (ev_cmp ht rfl rfl rfl rfl) ?_
    intro a ht
    refine wpList_nil ?_
    refine then_normal ?_
    by_cases h3 : xs0_1 < (a_.length : Int)
    · replace H := ite_yes h3 H
      refine wpc_yes ht rfl (decide_eq_true h3) ?_
      refine wp_skip ?_
      refine then_normal ?_
      refine wp_seq ?_
      refine wp_block ?_
      refine wp_seq ?_
      refine wph_begin (fun w => Ms X (fps []) w0 [] [RowsAt A c m vs a_, RowsAt A2 c2 m2 vs2 b] w) mixed ?_
      replace hm := hm.drew
      have hS : Ms X (fps []) w0 [] [RowsAt A c m vs a_, RowsAt A2 c2 m2 vs2 b] w.drew := (hm.pick [] rfl (by decide)).pickφ [0, 1] rfl
      generalize w.drew = w at hm hS ⊢
      refine wph_take (i := 0) rfl (by kernel_rfl) (by kernel_rfl) (by kernel_rfl) (fun _ _ _ h => h) rfl ht hS (wanted_plain rfl) (fun w hm => ev_move ht rfl rfl) ?_
      intro a ht
      refine wph_take (i := 1) rfl (by kernel_rfl) (by kernel_rfl) (by kernel_rfl) (fun _ _ _ h => h) rfl ht hS (wanted_plain rfl) (fun w hm => ev_move ht rfl rfl) ?_
      intro a ht
      obtain ⟨l4, el4, H⟩ := bind_get H
      refine wph_take (i := 2) rfl (by kernel_rfl) (by kernel_rfl) (by kernel_rfl) (fun _ _ _ h => h) rfl ht hS (wanted_plain rfl) (fun w hm => ev_index_rows ht rfl rfl rfl so_35 (hm.fact (φ := RowsAt A c m vs a_) 0 rfl) el4) ?_
      intro a ht
      obtain ⟨A5, c6, m7, hv8, hI⟩ := rowsAt_get (hm.fact (φ := RowsAt A c m vs a_) 0 rfl) el4
      refine wph_take (i := 3) rfl (by kernel_rfl) (by kernel_rfl) (by kernel_rfl) (fun _ _ _ h => h) rfl ht hS (wanted_plain rfl) (fun w hm => ev_load ht rfl rfl sc_43 (RowsAt.cell (hm.fact (φ := RowsAt A c m vs a_) 0 rfl) hv8)) ?_
      intro a ht
      replace hm : Ms _ _ _ _ (IntsAt A5 c6 m7 l4 :: _) w := hm.addφ ((hm.ro 0 rfl).mono fun w h => rowsAt_at h hv8 el4)
      clear hI
      refine wph_take (i := 4) rfl (by kernel_rfl) (by kernel_rfl) (by kernel_rfl) (fun _ _ _ h => h) rfl ht hS (wanted_plain rfl) (fun w hm => ev_move ht rfl rfl) ?_
      intro a ht
      refine wph_take (i := 5) rfl (by kernel_rfl) (by kernel_rfl) (by kernel_rfl) (fun _ _ _ h => h) rfl ht hS (wanted_plain rfl) (fun w hm => ev_move ht rfl rfl) ?_
      intro a ht
      obtain ⟨l9, el9, H⟩ := bind_get H
      refine wph_take (i := 6) rfl (by kernel_rfl) (by kernel_rfl) (by kernel_rfl) (fun _ _ _ h => h) rfl ht hS (wanted_plain rfl) (fun w hm => ev_index_rows ht rfl rfl rfl so_35 (hm.fact (φ := RowsAt A2 c2 m2 vs2 b) 1 rfl) el9) ?_
      intro a ht
      obtain ⟨A10, c11, m12, hv13, hI⟩ := rowsAt_get (hm.fact (φ := RowsAt A2 c2 m2 vs2 b) 2 rfl) el9
      refine wph_take (i := 7) rfl (by kernel_rfl) (by kernel_rfl) (by kernel_rfl) (fun _ _ _ h => h) rfl ht hS (wanted_plain rfl) (fun w hm => ev_load ht rfl rfl sc_43 (RowsAt.cell (hm.fact (φ := RowsAt A2 c2 m2 vs2 b) 1 rfl) hv13)) ?_
      intro a ht
      replace hm : Ms _ _ _ _ (IntsAt A10 c11 m12 l9 :: _) w := hm.addφ ((hm.ro 2 rfl).mono fun w h => rowsAt_at h hv13 el9)
      clear hI
      refine wph_one (i := 8) (by kernel_rfl) (wph_step rfl ?_)
      obtain ⟨t14, et14, H⟩ := bind_get H
      have hcall := laws_eqInt64S.calls q2 _ _ A5 c6 m7 A10 c11 m12 l4 l9 _ ((fun (hq : Ms _ _ _ ([] ++ []) _ _) => hq.lend (φp := [IntsAt A5 c6 m7 l4, IntsAt A10 c11 m12 l9]) (allRO_cons (hq.lendFact 1 rfl) (allRO_cons (hq.lendFact 0 rfl) (allRO_nil)))) (hm.pick (own' := [] ++ []) [] rfl (by decide))) et14
      refine wpl_call _ rfl rfl ht rfl rfl rfl rfl can_40 hcall ?_
      clear hcall
      rintro _ w ⟨rfl, hpost⟩ a ht
      replace hm := (hm.pick (own' := [] ++ []) [] rfl (by decide)).backL hpost
      clear hpost
      have hS : Ms X (fps []) w0 [] [RowsAt A c m vs a_, RowsAt A2 c2 m2 vs2 b] w := (hm.pick [] rfl (by decide)).pickφ [2, 3] rfl
      refine wpList_nil (qn ⟨hS, ?_⟩)
      refine wph_take (i := 9) rfl (by kernel_rfl) (by kernel_rfl) (by kernel_rfl) (fun _ _ _ h => h) rfl ht hS (wanted_plain rfl) (fun w hm => ev_not ht rfl rfl) ?_
      intro a ht
      refine wph_done (by kernel_rfl) ?_
      refine then_normal ?_
      by_cases h15 : t14 = true
      · replace H := ite_yes h15 H
        refine wpc_no ht rfl (not_t h15) ?_
        refine wp_skip ?_
        refine blk_normal ?_
        refine then_normal ?_
        refine wpr ?_
        refine wpl rfl rfl ht (ev_move ht rfl rfl) ?_
        intro a ht
        refine wpl rfl rfl ht (ev_arith ht rfl rfl rfl rfl) ?_
        intro a ht
        refine wpl rfl rfl ht (ev_assign ht rfl rfl) ?_
        intro a ht
        refine wpList_nil ?_
        exact then_normal ⟨q2, by omega, (w64 (xs0_1 + 1)), H, by omega, ht.sub ⟨rfl, rfl, rfl, rfl, trivial⟩, (hm.pick [] rfl (by decide)).pickφ [2, 3] rfl⟩
      · replace H := ite_no h15 H
        refine wpc_yes ht rfl (not_f (Bool.eq_false_iff.mpr h15)) ?_
        refine wp_seq ?_
        refine wpr ?_
        refine wpl rfl rfl ht (ev_assign ht rfl rfl) ?_
        intro a ht
        refine wpList_nil ?_
        refine then_normal ?_
        refine wp_ret ?_
        refine blk_ret ?_
        refine then_ret ?_
        refine then_ret ?_
        refine blk_ret ?_
        refine then_ret ?_
        have hres := ht.res (P := Try.prog) (w := w) (rs := [.tmp 4]) (vs := [.bool false]) (.tmp rfl .nil)
        obtain rfl := Option.some.inj H
        exact leave ht rfl hres ⟨rfl, ((hm.pick [] rfl (by decide)).pickφ [] rfl).post fun _ h => h⟩
    · replace H := ite_no h3 H
      refine wpc_no ht rfl (decide_eq_false h3) ?_
      refine wp_exit ?_
      refine then_exit ?_
      refine then_exit ?_
      refine blk_hit ?_
      refine then_normal ?_
      refine wp_seq ?_
      refine wpr ?_
      refine wpl rfl rfl ht (ev_assign ht rfl rfl) ?_
      intro a ht
      refine wpList_nil ?_
      refine then_normal ?_
      refine wp_ret ?_
      have hres := ht.res (P := Try.prog) (w := w) (rs := [.tmp 4]) (vs := [.bool true]) (.tmp rfl .nil)
      obtain rfl := Option.some.inj H
      exact leave ht rfl hres ⟨rfl, ((hm.pick [] rfl (by decide)).pickφ [] rfl).post fun _ h => h⟩

/-! ### laws_markInt64S: function 41 (loop.example/g01362/laws.markInt64S) -/
def laws_markInt64S.l0 : Nat → List Int → Int → Int → Option (Int × List Int)
  | 0, _, _, _ => none
  | q1 + 1, ls0_1, xs0_2, xs0_3 => if xs0_3 < (ls0_1.length : Int) then ((getI ls0_1 xs0_3).bind fun t3 => laws_markInt64S.l0 q1 (ls0_1.set xs0_3.toNat xs0_2) (w64 (xs0_2 + 1)) (w64 (xs0_3 + 1))) else (some (xs0_2, ls0_1))
def laws_markInt64S.f (k : Nat) (a_ : List Int) (k_ : Int) : Option (Int × List Int) := laws_markInt64S.l0 k a_ k_ 0
set_option maxRecDepth 100000 in
set_option maxHeartbeats 20000000 in
theorem laws_markInt64S.calls (k : Nat) (X : List Nat) (w0 : World) (A : Option Addr) (c : Nat) (m : Nat) (a_ : List Int) (k_ : Int) (r : Int × List Int)
    (hp : Pre X w0 [.vec A c 2 1 m (ints a_)] []) (H : laws_markInt64S.f k a_ k_ = some r) :
    Calls Try.prog 41 [.slice A m c, .int .i64 k_].toArray w0 (Ret fun v w => v = .int .i64 r.1 ∧ Post X (fps [.vec A c 2 1 m (ints a_)]) w0 [.vec A c 2 1 m (ints r.2)] [] w) := by
  unfold laws_markInt64S.f at H
  refine enterM (n := 19) hp Try.func41 rfl rfl (Nat.le_of_ble_eq_true rfl) fun a w ht hm => ?_
  refine wp_seq ?_
  refine wpr ?_
  refine wpl rfl rfl ht (ev_assign ht rfl rfl) ?_
  intro a ht
  refine wpList_nil ?_
  refine then_normal ?_
  refine wp_seq ?_
  refine wp_seq ?_
  refine wpr ?_
  refine wpl rfl rfl ht (ev_assign ht rfl rfl) ?_
  intro a ht
  refine wpList_nil ?_
  refine then_normal ?_
  refine wp_block ?_
  refine wpLoop (fun q a w => ∃ (ls0_1 : List Int) (xs0_2 : Int) (xs0_3 : Int), laws_markInt64S.l0 q ls0_1 xs0_2 xs0_3 = some r ∧ q ≤ k ∧ Tm 19 [(0, .slice A m c), (4, .int .i64 0), (1, .int .i64 xs0_2), (5, .int .i64 xs0_3)] a ∧ Ms X (fps [.vec A c 2 1 m (ints a_)]) w0 [.vec A c 2 1 m (ints ls0_1)] [] w) (k0 := k) ⟨a_, k_, 0, H, Nat.le_refl _, ht.sub ⟨rfl, rfl, rfl, rfl, trivial⟩, (hm.pick [0] rfl (by decide)).pickφ [] rfl⟩ ?_
  clear H ht hm
  intro q1 a w hJ
  obtain ⟨ls0_1, xs0_2, xs0_3, H, hqq1, ht, hm⟩ := hJ
  cases q1 with
  | zero => cases H
  | succ q1 =>
  rw [laws_markInt64S.l0] at H
  refine wp_seq ?_
  refine wp_seq ?_
  refine wpr ?_
  refine wpl rfl rfl ht (ev_move ht rfl rfl) ?_
  intro a ht
  refine wpl rfl rfl ht (ev_move ht rfl rfl) ?_
  intro a ht
  refine wpl rfl rfl ht (ev_len_of ht rfl rfl und_43 (hm.vec_row 0 rfl)) ?_
  intro a ht
  refine wpl rfl rfl ht (ev_cmp ht rfl rfl rfl rfl) ?_
  intro a ht
  refine wpList_nil ?_
  refine then_normal ?_
  by_cases h2 : xs0_3 < (ls0_1.length : Int)
  · replace H := ite_yes h2 H
    refine wpc_yes ht rfl (decide_eq_true h2) ?_
    refine wp_skip ?_
    refine then_normal ?_
    refine wp_seq ?_
    refine wp_block ?_
    refine wp_seq ?_
    refine wpr ?_
    refine wpl rfl rfl ht (ev_move ht rfl rfl) ?_
    intro a ht
    refine wpl rfl rfl ht (ev_move ht rfl rfl) ?_
    intro a ht
    refine wpl rfl rfl ht (ev_move ht rfl rfl) ?_
    intro a ht
    obtain ⟨t3, et3, H⟩ := bind_get H
    refine wpl rfl rfl ht (ev_index_ints ht rfl rfl rfl so_43 (hm.vec_row 0 rfl) et3) ?_
    intro a ht
    refine wpl_store_int 0 rfl rfl ht hm rfl rfl rfl sz1_2 rfl et3 ?_
    intro a ht w hm
    refine wpList_nil ?_
    refine then_normal ?_
    refine wpr ?_
    refine wpl rfl rfl ht (ev_move ht rfl rfl) ?_
    intro a ht
    refine wpl rfl rfl ht (ev_arith ht rfl rfl rfl rfl) ?_
    intro a ht
    refine wpl rfl rfl ht (ev_assign ht rfl rfl) ?_
    intro a ht
    refine wpList_nil ?_
    refine blk_normal ?_
    refine then_normal ?_
    refine wpr ?_
    refine wpl rfl rfl ht (ev_move ht rfl rfl) ?_
    intro a ht
    refine wpl rfl rfl ht (ev_arith ht rfl rfl rfl rfl) ?_
    intro a ht
    refine wpl rfl rfl ht (ev_assign ht rfl rfl) ?_
    intro a ht
    refine wpList_nil ?_
    exact then_normal ⟨q1, by omega, (ls0_1.set xs0_3.toNat xs0_2), (w64 (xs0_2 + 1)), (w64 (xs0_3 + 1)), H, by omega, ht.sub ⟨rfl, rfl, rfl, rfl, trivial⟩, (hm.pick [0] rfl (by decide)).pickφ [] rfl⟩
  · replace H := ite_no h2 H
    refine wpc_no ht rfl (decide_eq_false h2) ?_
    refine wp_exit ?_
    refine then_exit ?_
    refine then_exit ?_
    refine blk_hit ?_
    refine then_normal ?_
    refine wp_seq ?_
    refine wpr ?_
    refine wpl rfl rfl ht (ev_move ht rfl rfl) ?_
    intro a ht
    refine wpl rfl rfl ht (ev_assign ht rfl rfl) ?_
    intro a ht
    refine wpList_nil ?_
    refine then_normal ?_
    refine wp_ret ?_
    have hres := ht.res (P := Try.prog) (w := w) (rs := [.tmp 4]) (vs := [.int .i64 xs0_2]) (.tmp rfl .nil)
    obtain rfl := Option.some.inj H
    exact leave ht rfl hres ⟨rfl, ((hm.pick [0] rfl (by decide)).pickφ [] rfl).post fun _ h => h⟩

end Go.Proofs.Ytbgniopmmankdaa.G
