/- What each Go function computes, as a Lean function, and the proof that it does: written by a program of this session (wip/gen), part 2. -/
import Derived.Test.YtfhbamlpnicomaaGFnExactTakePoint1
namespace Go.Proofs.Ytfhbamlpnicomaa.G
open Go Go.RowKit Go.Proofs.Ytfhbamlpnicomaa.K
set_option linter.unusedVariables false
set_option linter.unusedSimpArgs false

/-! ### spec_l01Edge: function 92 (loop.example/g01362/spec.l01Edge) -/
def spec_l01Edge.f (i : Int) (j : Int) : Option (Int) := if i > j then (some (w64 ((w64 (Int.tdiv (w64 (i * (w64 (i - 1)))) 2)) + j))) else (some (w64 ((w64 (Int.tdiv (w64 (j * (w64 (j - 1)))) 2)) + i)))
set_option maxRecDepth 100000 in
set_option maxHeartbeats 1000000 in
theorem spec_l01Edge.calls (X : List Nat) (w0 : World)  (i : Int) (j : Int) (r : Int)
    (hp : Pre X w0 [] []) (H : spec_l01Edge.f i j = some r) :
    Calls Try.prog 92 [.int .i64 i, .int .i64 j].toArray w0 (Ret fun v w => v = .int .i64 r ∧ Post X (fps []) w0 [] [] w) := by
  unfold spec_l01Edge.f at H
  refine enterM (n := 22) hp Try.func92 rfl rfl (Nat.le_of_ble_eq_true rfl) fun a w ht hm => ?_
  refine wp_seq ?_
  refine wpr ?_
  refine wpl rfl rfl ht (ev_assign ht rfl rfl) ?_
  intro a ht
  refine wpList_nil ?_
  refine then_normal ?_
  refine wp_seq ?_
  refine wp_seq ?_
  refine wpr ?_
  refine wpl rfl rfl ht (ev_move ht rfl rfl) ?_
  intro a ht
  refine wpl rfl rfl ht (ev_move ht rfl rfl) ?_
  intro a ht
  refine wpl rfl rfl ht (ev_cmp ht rfl rfl rfl rfl) ?_
  intro a ht
  refine wpList_nil ?_
  refine then_normal ?_
  by_cases h1 : i > j
  · replace H := ite_yes h1 H
    refine wpc_yes ht rfl (decide_eq_true h1) ?_
    refine wp_seq ?_
    refine wpr ?_
    refine wpl rfl rfl ht (ev_move ht rfl rfl) ?_
    intro a ht
    refine wpl rfl rfl ht (ev_move ht rfl rfl) ?_
    intro a ht
    refine wpl rfl rfl ht (ev_arith ht rfl rfl rfl rfl) ?_
    intro a ht
    refine wpl rfl rfl ht (ev_arith ht rfl rfl rfl rfl) ?_
    intro a ht
    refine wpl rfl rfl ht (ev_quo ht rfl rfl rfl (by decide)) ?_
    intro a ht
    refine wpl rfl rfl ht (ev_move ht rfl rfl) ?_
    intro a ht
    refine wpl rfl rfl ht (ev_arith ht rfl rfl rfl rfl) ?_
    intro a ht
    refine wpl rfl rfl ht (ev_assign ht rfl rfl) ?_
    intro a ht
    refine wpList_nil ?_
    refine then_normal ?_
    refine wp_ret ?_
    refine then_ret ?_
    have hres := ht.res (P := Try.prog) (w := w) (rs := [.tmp 4]) (vs := [.int .i64 (w64 ((w64 (Int.tdiv (w64 (i * (w64 (i - 1)))) 2)) + j))]) (.tmp rfl .nil)
    obtain rfl := Option.some.inj H
    exact leave ht rfl hres ⟨rfl, ((hm.pick [] rfl (by decide)).pickφ [] rfl).post fun _ h => h⟩
  · replace H := ite_no h1 H
    refine wpc_no ht rfl (decide_eq_false h1) ?_
    refine wp_skip ?_
    refine then_normal ?_
    refine wp_seq ?_
    refine wpr ?_
    refine wpl rfl rfl ht (ev_move ht rfl rfl) ?_
    intro a ht
    refine wpl rfl rfl ht (ev_move ht rfl rfl) ?_
    intro a ht
    refine wpl rfl rfl ht (ev_arith ht rfl rfl rfl rfl) ?_
    intro a ht
    refine wpl rfl rfl ht (ev_arith ht rfl rfl rfl rfl) ?_
    intro a ht
    refine wpl rfl rfl ht (ev_quo ht rfl rfl rfl (by decide)) ?_
    intro a ht
    refine wpl rfl rfl ht (ev_move ht rfl rfl) ?_
    intro a ht
    refine wpl rfl rfl ht (ev_arith ht rfl rfl rfl rfl) ?_
    intro a ht
    refine wpl rfl rfl ht (ev_assign ht rfl rfl) ?_
    intro a ht
    refine wpList_nil ?_
    refine then_normal ?_
    refine wp_ret ?_
    have hres := ht.res (P := Try.prog) (w := w) (rs := [.tmp 4]) (vs := [.int .i64 (w64 ((w64 (Int.tdiv (w64 (j * (w64 (j - 1)))) 2)) + i))]) (.tmp rfl .nil)
    obtain rfl := Option.some.inj H
    exact leave ht rfl hres ⟨rfl, ((hm.pick [] rfl (by decide)).pickφ [] rfl).post fun _ h => h⟩

/-! ### spec_l01At: function 87 (loop.example/g01362/spec.l01At) -/
def spec_l01At.f (x : Col) (i : Int) (j : Int) : Option (Int) := (spec_l01Edge.f i j).bind fun t2 => (getB 136 x.e t2).bind fun t3 => some (w64 t3)
set_option maxRecDepth 100000 in
set_option maxHeartbeats 1000000 in
theorem spec_l01At.calls (X : List Nat) (w0 : World)  (x : Col) (i : Int) (j : Int) (r : Int)
    (hp : Pre X w0 [] []) (H : spec_l01At.f x i j = some r) :
    Calls Try.prog 87 [.agg (Col.cells x).toArray, .int .i64 i, .int .i64 j].toArray w0 (Ret fun v w => v = .int .i64 r ∧ Post X (fps []) w0 [] [] w) := by
  unfold spec_l01At.f at H
  refine enterM (n := 14) hp Try.func87 rfl rfl (Nat.le_of_ble_eq_true rfl) fun a w ht hm => ?_
  refine wp_seq ?_
  refine wpr ?_
  refine wpl_box rfl rfl ht hm rfl rfl rfl ?_
  intro b1 a ht w hm
  refine wpl rfl rfl ht (ev_assign ht rfl rfl) ?_
  intro a ht
  refine wpList_nil ?_
  refine then_normal ?_
  refine wp_seq ?_
  refine wpr ?_
  refine wpl rfl rfl ht (ev_move ht rfl rfl) ?_
  intro a ht
  refine wpl rfl rfl ht (ev_move ht rfl rfl) ?_
  intro a ht
  obtain ⟨t2, et2, H⟩ := bind_get H
  have hcall := spec_l01Edge.calls _ _ i j _ ((fun (hq : Ms _ _ _ ([] ++ [.blk b1 28 (Col.cells x)]) _ _) => hq.lend (φp := []) (allRO_nil)) (hm.pick (own' := [] ++ [.blk b1 28 (Col.cells x)]) [0] rfl (by decide))) et2
  refine wpl_call _ rfl rfl ht rfl rfl rfl rfl can_92 hcall ?_
  clear hcall
  rintro _ w ⟨rfl, hpost⟩ a ht
  replace hm := (hm.pick (own' := [] ++ [.blk b1 28 (Col.cells x)]) [0] rfl (by decide)).backL hpost
  clear hpost
  refine wpl rfl rfl ht (ev_fieldAddr ht rfl rfl fo_28_2) ?_
  intro a ht
  obtain ⟨t3, et3, H⟩ := bind_get H
  refine wpl rfl rfl ht (ev_indexAddr_arr ht rfl rfl rfl ar_22 (getB_lo et3) (getB_hi et3)) ?_
  intro a ht
  refine wpl rfl rfl ht (ev_load ht rfl rfl sc_5 (hm.blk_cell 0 rfl (Col.get et3))) ?_
  intro a ht
  refine wpl rfl rfl ht (ev_convert ht rfl rfl und_5 und_2) ?_
  intro a ht
  refine wpl rfl rfl ht (ev_assign ht rfl rfl) ?_
  intro a ht
  refine wpList_nil ?_
  refine then_normal ?_
  refine wp_ret ?_
  have hres := ht.res (P := Try.prog) (w := w) (rs := [.tmp 6]) (vs := [.int .i64 (w64 t3)]) (.tmp rfl .nil)
  obtain rfl := Option.some.inj H
  exact leave ht rfl hres ⟨rfl, ((hm.pick [] rfl (by decide)).pickφ [] rfl).post fun _ h => h⟩

/-! ### spec_l01Part: function 77 (loop.example/g01362/spec.l01Part) -/
mutual
def spec_l01Part.l0 : Nat → Col → List Int → Col → Int → Option (Col)
  | 0, _, _, _, _ => none
  | q4 + 1, x, points, xs0_1, xs0_2 => if xs0_2 < xs0_1.p then (spec_l01Part.l1 q4 x points xs0_2 xs0_1 0) else (some xs0_1)
def spec_l01Part.l1 : Nat → Col → List Int → Int → Col → Int → Option (Col)
  | 0, _, _, _, _, _ => none
  | q6 + 1, x, points, xs0_2, xs1_1, xs1_2 => if xs1_2 < xs0_2 then ((getI points xs1_2).bind fun t8 => (getI points xs0_2).bind fun t9 => (spec_l01Edge.f xs1_2 xs0_2).bind fun t10 => (spec_l01At.f x t8 t9).bind fun t11 => (getB 136 xs1_1.e t10).bind fun t12 => spec_l01Part.l1 q6 x points xs0_2 (Col.setE xs1_1 t10.toNat (w8 t11)) (w64 (xs1_2 + 1))) else (spec_l01Part.l0 q6 x points xs1_1 (w64 (xs0_2 + 1)))
end
def spec_l01Part.f (k : Nat) (x : Col) (points : List Int) : Option (Col) := spec_l01Part.l0 k x points (Col.mk (points.length : Int) x.k (fun _ => 0)) 1
set_option maxRecDepth 100000 in
set_option maxHeartbeats 1000000 in
theorem spec_l01Part.calls (k : Nat) (X : List Nat) (w0 : World) (A : Option Addr) (c : Nat) (m : Nat) (x : Col) (points : List Int) (r : Col)
    (hp : Pre X w0 [] [IntsAt A c m points]) (H : spec_l01Part.f k x points = some r) :
    Calls Try.prog 77 [.agg (Col.cells x).toArray, .slice A m c].toArray w0 (Ret fun v w => v = .agg (Col.cells r).toArray ∧ Post X (fps []) w0 [] [] w) := by
  unfold spec_l01Part.f at H
  refine enterM (n := 41) hp Try.func77 rfl rfl (Nat.le_of_ble_eq_true rfl) fun a w ht hm => ?_
  refine wp_seq ?_
  refine wpr ?_
  refine wpl_box rfl rfl ht hm rfl rfl rfl ?_
  intro b1 a ht w hm
  refine wpl_alloc rfl rfl ht hm rfl zo_28 ?_
  intro b2 a ht w hm
  refine wpList_nil ?_
  refine then_normal ?_
  refine wp_seq ?_
  refine wpr ?_
  refine wpl rfl rfl ht (ev_move ht rfl rfl) ?_
  intro a ht
  refine wpl rfl rfl ht (ev_len_of ht rfl rfl und_25 (hm.fact (φ := IntsAt A c m points) 0 rfl)) ?_
  intro a ht
  refine wpl rfl rfl ht (ev_fieldAddr ht rfl rfl fo_28_1) ?_
  intro a ht
  refine wpl rfl rfl ht (ev_load ht rfl rfl sc_2 (hm.blk_cell 1 rfl rfl)) ?_
  intro a ht
  refine wpl rfl rfl ht (ev_build ht rfl bi_28 rfl (fill_col _ _)) ?_
  intro a ht
  refine wpl_alloc rfl rfl ht hm rfl zo_28 ?_
  intro b3 a ht w hm
  refine wpl_store_whole 0 rfl rfl ht hm rfl rfl rfl (szn_28.trans (by first | rw [Col.length_cells] | rfl)) rfl (by simp only [Col.length_cells]) (Col.cells_one _) ?_
  intro a ht w hm
  refine wpList_nil ?_
  refine then_normal ?_
  refine wp_seq ?_
  refine wp_seq ?_
  refine wpr ?_
  refine wpl rfl rfl ht (ev_assign ht rfl rfl) ?_
  intro a ht
  refine wpList_nil ?_
  refine then_normal ?_
  refine wp_block ?_
  refine wpLoop (fun q a w => ∃ (xs0_1 : Col) (xs0_2 : Int), spec_l01Part.l0 q x points xs0_1 xs0_2 = some r ∧ q ≤ k ∧ Tm 41 [(1, .slice A m c), (2, .pointer (some ⟨b1, 0, none⟩)), (4, .pointer (some ⟨b2, 0, none⟩)), (5, .pointer (some ⟨b3, 0, none⟩)), (6, .int .i64 xs0_2)] a ∧ Ms X (fps []) w0 [.blk b3 28 (Col.cells xs0_1), .blk b2 28 (Col.cells Col.zero), .blk b1 28 (Col.cells x)] [IntsAt A c m points] w) (k0 := k) ⟨(Col.mk (points.length : Int) x.k (fun _ => 0)), 1, H, Nat.le_refl _, ht.sub ⟨rfl, rfl, rfl, rfl, rfl, trivial⟩, (hm.pick [0, 1, 2] rfl (by decide)).pickφ [0] rfl⟩ ?_
  clear H ht hm
  intro q4 a w hJ
  obtain ⟨xs0_1, xs0_2, H, hqq4, ht, hm⟩ := hJ
  cases q4 with
  | zero => cases H
  | succ q4 =>
  rw [spec_l01Part.l0] at H
  refine wp_seq ?_
  refine wp_seq ?_
  refine wpr ?_
  refine wpl rfl rfl ht (ev_move ht rfl rfl) ?_
  intro a ht
  refine wpl rfl rfl ht (ev_fieldAddr ht rfl rfl fo_28_0) ?_
  intro a ht
  refine wpl rfl rfl ht (ev_load ht rfl rfl sc_2 (hm.blk_cell 0 rfl rfl)) ?_
  intro a ht
  refine wpl rfl rfl ht (ev_cmp ht rfl rfl rfl rfl) ?_
  intro a ht
  refine wpList_nil ?_
  refine then_normal ?_
  by_cases h5 : xs0_2 < xs0_1.p
  · replace H := ite_yes h5 H
    refine wpc_yes ht rfl (decide_eq_true h5) ?_
    refine wp_skip ?_
    refine then_normal ?_
    refine wp_seq ?_
    refine wp_block ?_
    refine wp_seq ?_
    refine wpr ?_
    refine wpl rfl rfl ht (ev_assign ht rfl rfl) ?_
    intro a ht
    refine wpList_nil ?_
    refine then_normal ?_
    refine wp_block ?_
    refine wpLoop (fun q a w => ∃ (xs1_1 : Col) (xs1_2 : Int), spec_l01Part.l1 q x points xs0_2 xs1_1 xs1_2 = some r ∧ q ≤ q4 ∧ Tm 41 [(1, .slice A m c), (2, .pointer (some ⟨b1, 0, none⟩)), (4, .pointer (some ⟨b2, 0, none⟩)), (5, .pointer (some ⟨b3, 0, none⟩)), (6, .int .i64 xs0_2), (13, .int .i64 xs0_2), (14, .pointer (some ⟨b3, 0 + 0, none⟩)), (15, .int .i64 xs0_1.p), (16, .bool (decide (xs0_2 < xs0_1.p))), (7, .int .i64 xs1_2)] a ∧ Ms X (fps []) w0 [.blk b3 28 (Col.cells xs1_1), .blk b2 28 (Col.cells Col.zero), .blk b1 28 (Col.cells x)] [IntsAt A c m points] w) (k0 := q4) ⟨xs0_1, 0, H, Nat.le_refl _, ht.sub ⟨rfl, rfl, rfl, rfl, rfl, rfl, rfl, rfl, rfl, rfl, trivial⟩, (hm.pick [0, 1, 2] rfl (by decide)).pickφ [0] rfl⟩ ?_
    clear H ht hm
    intro q6 a w hJ
    obtain ⟨xs1_1, xs1_2, H, hqq6, ht, hm⟩ := hJ
    cases q6 with
    | zero => cases H
    | succ q6 =>
    rw [spec_l01Part.l1] at H
    refine wp_seq ?_
    refine wp_seq ?_
    refine wpr ?_
    refine wpl rfl rfl ht (ev_move ht rfl rfl) ?_
    intro a ht
    refine wpl rfl rfl ht (ev_move ht rfl rfl) ?_
    intro a ht
    refine wpl rfl rfl ht (ev_cmp ht rfl rfl rfl rfl) ?_
    intro a ht
    refine wpList_nil ?_
    refine then_normal ?_
    by_cases h7 : xs1_2 < xs0_2
    · replace H := ite_yes h7 H
      refine wpc_yes ht rfl (decide_eq_true h7) ?_
      refine wp_skip ?_
      refine then_normal ?_
      refine wp_seq ?_
      refine wp_block ?_
      refine wph_begin (fun w => Ms X (fps []) w0 [.blk b2 28 (Col.cells Col.zero), .blk b1 28 (Col.cells x)] [IntsAt A c m points] w) mixed ?_
      replace hm := hm.drew
      have hS : Ms X (fps []) w0 [.blk b2 28 (Col.cells Col.zero), .blk b1 28 (Col.cells x)] [IntsAt A c m points] w.drew := (hm.pick [1, 2] rfl (by decide)).pickφ [0] rfl
      generalize w.drew = w at hm hS ⊢
      refine wph_take (i := 0) rfl (by kernel_rfl) (by kernel_rfl) (by kernel_rfl) (fun _ _ _ h => h) rfl ht hS (wanted_plain rfl) (fun w hm => ev_move ht rfl rfl) ?_
      intro a ht
      refine wph_take (i := 1) rfl (by kernel_rfl) (by kernel_rfl) (by kernel_rfl) (fun _ _ _ h => h) rfl ht hS (wanted_plain rfl) (fun w hm => ev_move ht rfl rfl) ?_
      intro a ht
      refine wph_take (i := 3) rfl (by kernel_rfl) (by kernel_rfl) (by kernel_rfl) (fun _ _ _ h => h) rfl ht hS (wanted_plain rfl) (fun w hm => ev_load_agg ht rfl rfl (ag_28.trans (by first | rw [Col.length_cells] | rfl)) (hm.blk_all 1 rfl)) ?_
      intro a ht
      refine wph_take (i := 4) rfl (by kernel_rfl) (by kernel_rfl) (by kernel_rfl) (fun _ _ _ h => h) rfl ht hS (wanted_plain rfl) (fun w hm => ev_move ht rfl rfl) ?_
      intro a ht
      refine wph_take (i := 5) rfl (by kernel_rfl) (by kernel_rfl) (by kernel_rfl) (fun _ _ _ h => h) rfl ht hS (wanted_plain rfl) (fun w hm => ev_move ht rfl rfl) ?_
      intro a ht
      obtain ⟨t8, et8, H⟩ := bind_get H
      refine wph_take (i := 6) rfl (by kernel_rfl) (by kernel_rfl) (by kernel_rfl) (fun _ _ _ h => h) rfl ht hS (wanted_plain rfl) (fun w hm => ev_index_ints ht rfl rfl rfl so_25 (hm.fact (φ := IntsAt A c m points) 0 rfl) et8) ?_
      intro a ht
      refine wph_take (i := 7) rfl (by kernel_rfl) (by kernel_rfl) (by kernel_rfl) (fun _ _ _ h => h) rfl ht hS (wanted_plain rfl) (fun w hm => ev_load ht rfl rfl sc_2 (RowAt.cell (hm.fact (φ := IntsAt A c m points) 0 rfl) (ints_get et8) rfl)) ?_
      intro a ht
      refine wph_take (i := 8) rfl (by kernel_rfl) (by kernel_rfl) (by kernel_rfl) (fun _ _ _ h => h) rfl ht hS (wanted_plain rfl) (fun w hm => ev_move ht rfl rfl) ?_
      intro a ht
      refine wph_take (i := 9) rfl (by kernel_rfl) (by kernel_rfl) (by kernel_rfl) (fun _ _ _ h => h) rfl ht hS (wanted_plain rfl) (fun w hm => ev_move ht rfl rfl) ?_
      intro a ht
      obtain ⟨t9, et9, H⟩ := bind_get H
      refine wph_take (i := 10) rfl (by kernel_rfl) (by kernel_rfl) (by kernel_rfl) (fun _ _ _ h => h) rfl ht hS (wanted_plain rfl) (fun w hm => ev_index_ints ht rfl rfl rfl so_25 (hm.fact (φ := IntsAt A c m points) 0 rfl) et9) ?_
      intro a ht
      refine wph_take (i := 11) rfl (by kernel_rfl) (by kernel_rfl) (by kernel_rfl) (fun _ _ _ h => h) rfl ht hS (wanted_plain rfl) (fun w hm => ev_load ht rfl rfl sc_2 (RowAt.cell (hm.fact (φ := IntsAt A c m points) 0 rfl) (ints_get et9) rfl)) ?_
      intro a ht
      refine wph_take (i := 14) rfl (by kernel_rfl) (by kernel_rfl) (by kernel_rfl) (fun _ _ _ h => h) rfl ht hS (wanted_plain rfl) (fun w hm => ev_fieldAddr ht rfl rfl fo_28_2) ?_
      intro a ht
      refine wph_one (i := 2) (by kernel_rfl) (wph_step rfl ?_)
      obtain ⟨t10, et10, H⟩ := bind_get H
      have hcall := spec_l01Edge.calls _ _ xs1_2 xs0_2 _ ((fun (hq : Ms _ _ _ ([] ++ [.blk b3 28 (Col.cells xs1_1), .blk b2 28 (Col.cells Col.zero), .blk b1 28 (Col.cells x)]) _ _) => hq.lend (φp := []) (allRO_nil)) (hm.pick (own' := [] ++ [.blk b3 28 (Col.cells xs1_1), .blk b2 28 (Col.cells Col.zero), .blk b1 28 (Col.cells x)]) [0, 1, 2] rfl (by decide))) et10
      refine wpl_call _ rfl rfl ht rfl rfl rfl rfl can_92 hcall ?_
      clear hcall
      rintro _ w ⟨rfl, hpost⟩ a ht
      replace hm := (hm.pick (own' := [] ++ [.blk b3 28 (Col.cells xs1_1), .blk b2 28 (Col.cells Col.zero), .blk b1 28 (Col.cells x)]) [0, 1, 2] rfl (by decide)).backL hpost
      clear hpost
      have hS : Ms X (fps []) w0 [.blk b2 28 (Col.cells Col.zero), .blk b1 28 (Col.cells x)] [IntsAt A c m points] w := (hm.pick [1, 2] rfl (by decide)).pickφ [0] rfl
      refine wpList_nil (qn ⟨hS, ?_⟩)
      refine wph_one (i := 12) (by kernel_rfl) (wph_step rfl ?_)
      obtain ⟨t11, et11, H⟩ := bind_get H
      have hcall := spec_l01At.calls _ _ x t8 t9 _ ((fun (hq : Ms _ _ _ ([] ++ [.blk b3 28 (Col.cells xs1_1), .blk b2 28 (Col.cells Col.zero), .blk b1 28 (Col.cells x)]) _ _) => hq.lend (φp := []) (allRO_nil)) (hm.pick (own' := [] ++ [.blk b3 28 (Col.cells xs1_1), .blk b2 28 (Col.cells Col.zero), .blk b1 28 (Col.cells x)]) [0, 1, 2] rfl (by decide))) et11
      refine wpl_call _ rfl rfl ht rfl rfl rfl rfl can_87 hcall ?_
      clear hcall
      rintro _ w ⟨rfl, hpost⟩ a ht
      replace hm := (hm.pick (own' := [] ++ [.blk b3 28 (Col.cells xs1_1), .blk b2 28 (Col.cells Col.zero), .blk b1 28 (Col.cells x)]) [0, 1, 2] rfl (by decide)).backL hpost
      clear hpost
      have hS : Ms X (fps []) w0 [.blk b2 28 (Col.cells Col.zero), .blk b1 28 (Col.cells x)] [IntsAt A c m points] w := (hm.pick [1, 2] rfl (by decide)).pickφ [0] rfl
      refine wpList_nil (qn ⟨hS, ?_⟩)
      refine wph_take (i := 13) rfl (by kernel_rfl) (by kernel_rfl) (by kernel_rfl) (fun _ _ _ h => h) rfl ht hS (wanted_plain rfl) (fun w hm => ev_convert ht rfl rfl und_2 und_5) ?_
      intro a ht
      obtain ⟨t12, et12, H⟩ := bind_get H
      refine wph_take (i := 15) rfl (by kernel_rfl) (by kernel_rfl) (by kernel_rfl) (fun _ _ _ h => h) rfl ht hS (wanted_plain rfl) (fun w hm => ev_indexAddr_arr ht rfl rfl rfl ar_22 (getB_lo et12) (getB_hi et12)) ?_
      intro a ht
      refine wph_one (i := 16) (by kernel_rfl) (wph_step rfl ?_)
      refine wpl_store_colE 0 rfl rfl ht hm rfl rfl rfl sz1_5 rfl et12 ?_
      intro a ht w hm
      have hS : Ms X (fps []) w0 [.blk b2 28 (Col.cells Col.zero), .blk b1 28 (Col.cells x)] [IntsAt A c m points] w := (hm.pick [1, 2] rfl (by decide)).pickφ [0] rfl
      refine wpList_nil (qn ⟨hS, ?_⟩)
      refine wph_done (by kernel_rfl) ?_
      refine blk_normal ?_
      refine then_normal ?_
      refine wpr ?_
      refine wpl rfl rfl ht (ev_move ht rfl rfl) ?_
      intro a ht
      refine wpl rfl rfl ht (ev_arith ht rfl rfl rfl rfl) ?_
      intro a ht
      refine wpl rfl rfl ht (ev_assign ht rfl rfl) ?_
      intro a ht
      refine wpList_nil ?_
      exact then_normal ⟨q6, by omega, (Col.setE xs1_1 t10.toNat (w8 t11)), (w64 (xs1_2 + 1)), H, by omega, ht.sub ⟨rfl, rfl, rfl, rfl, rfl, rfl, rfl, rfl, rfl, rfl, trivial⟩, (hm.pick [0, 1, 2] rfl (by decide)).pickφ [0] rfl⟩
    · replace H := ite_no h7 H
      refine wpc_no ht rfl (decide_eq_false h7) ?_
      refine wp_exit ?_
      refine then_exit ?_
      refine then_exit ?_
      refine blk_hit ?_
      refine blk_normal ?_
      refine then_normal ?_
      refine wpr ?_
      refine wpl rfl rfl ht (ev_move ht rfl rfl) ?_
      intro a ht
      refine wpl rfl rfl ht (ev_arith ht rfl rfl rfl rfl) ?_
      intro a ht
      refine wpl rfl rfl ht (ev_assign ht rfl rfl) ?_
      intro a ht
      refine wpList_nil ?_
      exact then_normal ⟨q6, by omega, xs1_1, (w64 (xs0_2 + 1)), H, by omega, ht.sub ⟨rfl, rfl, rfl, rfl, rfl, trivial⟩, (hm.pick [0, 1, 2] rfl (by decide)).pickφ [0] rfl⟩
  · replace H := ite_no h5 H
    refine wpc_no ht rfl (decide_eq_false h5) ?_
    refine wp_exit ?_
    refine then_exit ?_
    refine then_exit ?_
    refine blk_hit ?_
    refine then_normal ?_
    refine wp_seq ?_
    refine wpr ?_
    refine wpl rfl rfl ht (ev_load_agg ht rfl rfl (ag_28.trans (by first | rw [Col.length_cells] | rfl)) (hm.blk_all 0 rfl)) ?_
    intro a ht
    refine wpl_store_whole 1 rfl rfl ht hm rfl rfl rfl (szn_28.trans (by first | rw [Col.length_cells] | rfl)) rfl (by simp only [Col.length_cells]) (Col.cells_one _) ?_
    intro a ht w hm
    refine wpList_nil ?_
    refine then_normal ?_
    refine wp_ret ?_
    have hres := ht.res (P := Try.prog) (w := w) (rs := [.cell 4 28]) (vs := [.agg (Col.cells xs0_1).toArray]) (.agg rfl (ag_28.trans (by first | rw [Col.length_cells] | rfl)) (hm.blk_all 1 rfl) .nil)
    obtain rfl := Option.some.inj H
    exact leave ht rfl hres ⟨rfl, ((hm.pick [] rfl (by decide)).pickφ [] rfl).post fun _ h => h⟩

/-! ### spec_l01Take: function 69 (loop.example/g01362/spec.l01Take) -/
def spec_l01Take.l0 : Nat → Col → Int → List Int → Int → Option (Col)
  | 0, _, _, _, _ => none
  | q4 + 1, x, p, ls0_4, xs0_5 => if xs0_5 < x.p then (if xs0_5 ≠ p then ((push ls0_4 xs0_5).bind fun l11 => spec_l01Take.l0 q4 x p l11 (w64 (xs0_5 + 1))) else (spec_l01Take.l0 q4 x p ls0_4 (w64 (xs0_5 + 1)))) else ((spec_l01Part.f q4 x ls0_4).bind fun t12 => some t12)
def spec_l01Take.f (k : Nat) (x : Col) (p : Int) : Option (Col) := spec_l01Take.l0 k x p ([] : List Int) 0
set_option maxRecDepth 100000 in
set_option maxHeartbeats 1000000 in
theorem spec_l01Take.calls (k : Nat) (X : List Nat) (w0 : World)  (x : Col) (p : Int) (r : Col)
    (hp : Pre X w0 [] []) (H : spec_l01Take.f k x p = some r) :
    Calls Try.prog 69 [.agg (Col.cells x).toArray, .int .i64 p].toArray w0 (Ret fun v w => v = .agg (Col.cells r).toArray ∧ Post X (fps []) w0 [] [] w) := by
  unfold spec_l01Take.f at H
  refine enterM (n := 24) hp Try.func69 rfl rfl (Nat.le_of_ble_eq_true rfl) fun a w ht hm => ?_
  refine wp_seq ?_
  refine wpr ?_
  refine wpl_box rfl rfl ht hm rfl rfl rfl ?_
  intro b1 a ht w hm
  refine wpl_alloc rfl rfl ht hm rfl zo_28 ?_
  intro b2 a ht w hm
  refine wpList_nil ?_
  refine then_normal ?_
  refine wp_seq ?_
  refine wpr ?_
  refine wpl_build_ints (l := ([] : List Int)) rfl rfl ht hm rfl und_25 zo_2 sz1_2 (by decide) rfl rfl rfl ?_
  intro A3 a ht w hm
  refine wpl rfl rfl ht (ev_assign ht rfl rfl) ?_
  intro a ht
  refine wpList_nil ?_
  refine then_normal ?_
  refine wp_seq ?_
  refine wp_seq ?_
  refine wpr ?_
  refine wpl rfl rfl ht (ev_assign ht rfl rfl) ?_
  intro a ht
  refine wpList_nil ?_
  refine then_normal ?_
  refine wp_block ?_
  refine wpLoop (fun q a w => ∃ (ls0_4 : List Int) (xs0_5 : Int) (As0_1 : Option Addr) (cs0_2 : Nat) (ms0_3 : Nat), spec_l01Take.l0 q x p ls0_4 xs0_5 = some r ∧ q ≤ k ∧ Tm 24 [(1, .int .i64 p), (2, .pointer (some ⟨b1, 0, none⟩)), (4, .pointer (some ⟨b2, 0, none⟩)), (5, .slice As0_1 ms0_3 cs0_2), (6, .int .i64 xs0_5)] a ∧ Ms X (fps []) w0 [.vec As0_1 cs0_2 2 1 ms0_3 (ints ls0_4), .blk b2 28 (Col.cells Col.zero), .blk b1 28 (Col.cells x)] [] w) (k0 := k) ⟨([] : List Int), 0, A3, 0, 0, H, Nat.le_refl _, ht.sub ⟨rfl, rfl, rfl, rfl, rfl, trivial⟩, (hm.pick [0, 1, 2] rfl (by decide)).pickφ [] rfl⟩ ?_
  clear H ht hm
  intro q4 a w hJ
  obtain ⟨ls0_4, xs0_5, As0_1, cs0_2, ms0_3, H, hqq4, ht, hm⟩ := hJ
  cases q4 with
  | zero => cases H
  | succ q4 =>
  rw [spec_l01Take.l0] at H
  refine wp_seq ?_
  refine wp_seq ?_
  refine wpr ?_
  refine wpl rfl rfl ht (ev_move ht rfl rfl) ?_
  intro a ht
  refine wpl rfl rfl ht (ev_fieldAddr ht rfl rfl fo_28_0) ?_
  intro a ht
  refine wpl rfl rfl ht (ev_load ht rfl rfl sc_2 (hm.blk_cell 2 rfl rfl)) ?_
  intro a ht
  refine wpl rfl rfl ht (ev_cmp ht rfl rfl rfl rfl) ?_
  intro a ht
  refine wpList_nil ?_
  refine then_normal ?_
  by_cases h5 : xs0_5 < x.p
  · replace H := ite_yes h5 H
    refine wpc_yes ht rfl (decide_eq_true h5) ?_
    refine wp_skip ?_
    refine then_normal ?_
    refine wp_seq ?_
    refine wp_block ?_
    refine wp_seq ?_
    refine wpr ?_
    refine wpl rfl rfl ht (ev_move ht rfl rfl) ?_
    intro a ht
    refine wpl rfl rfl ht (ev_move ht rfl rfl) ?_
    intro a ht
    refine wpl rfl rfl ht (ev_cmp ht rfl rfl rfl rfl) ?_
    intro a ht
    refine wpList_nil ?_
    refine then_normal ?_
    by_cases h6 : xs0_5 ≠ p
    · replace H := ite_yes h6 H
      refine wpc_yes ht rfl (decide_eq_true h6) ?_
      refine wpr ?_
      refine wpl rfl rfl ht (ev_move ht rfl rfl) ?_
      intro a ht
      refine wpl rfl rfl ht (ev_move ht rfl rfl) ?_
      intro a ht
      refine wpl_build_ints (l := [xs0_5]) rfl rfl ht hm rfl und_25 zo_2 sz1_2 (by decide) rfl rfl rfl ?_
      intro A7 a ht w hm
      obtain ⟨l11, el11, H⟩ := bind_get H
      refine wpl_push (r := l11) 1 0 rfl rfl ht hm rfl ap_25 rfl rfl rfl rfl el11 ?_
      intro A8 c9 m10 a ht w hm
      refine wpl rfl rfl ht (ev_assign ht rfl rfl) ?_
      intro a ht
      refine wpList_nil ?_
      refine blk_normal ?_
      refine then_normal ?_
      refine wpr ?_
      refine wpl rfl rfl ht (ev_move ht rfl rfl) ?_
      intro a ht
      refine wpl rfl rfl ht (ev_arith ht rfl rfl rfl rfl) ?_
      intro a ht
      refine wpl rfl rfl ht (ev_assign ht rfl rfl) ?_
      intro a ht
      refine wpList_nil ?_
      exact then_normal ⟨q4, by omega, l11, (w64 (xs0_5 + 1)), A8, c9, m10, H, by omega, ht.sub ⟨rfl, rfl, rfl, rfl, rfl, trivial⟩, (hm.pick [1, 2, 3] rfl (by decide)).pickφ [] rfl⟩
    · replace H := ite_no h6 H
      refine wpc_no ht rfl (decide_eq_false h6) ?_
      refine wp_skip ?_
      refine blk_normal ?_
      refine then_normal ?_
      refine wpr ?_
      refine wpl rfl rfl ht (ev_move ht rfl rfl) ?_
      intro a ht
      refine wpl rfl rfl ht (ev_arith ht rfl rfl rfl rfl) ?_
      intro a ht
      refine wpl rfl rfl ht (ev_assign ht rfl rfl) ?_
      intro a ht
      refine wpList_nil ?_
      exact then_normal ⟨q4, by omega, ls0_4, (w64 (xs0_5 + 1)), As0_1, cs0_2, ms0_3, H, by omega, ht.sub ⟨rfl, rfl, rfl, rfl, rfl, trivial⟩, (hm.pick [0, 1, 2] rfl (by decide)).pickφ [] rfl⟩
  · replace H := ite_no h5 H
    refine wpc_no ht rfl (decide_eq_false h5) ?_
    refine wp_exit ?_
    refine then_exit ?_
    refine then_exit ?_
    refine blk_hit ?_
    refine then_normal ?_
    refine wp_seq ?_
    refine wpr ?_
    refine wpl rfl rfl ht (ev_load_agg ht rfl rfl (ag_28.trans (by first | rw [Col.length_cells] | rfl)) (hm.blk_all 2 rfl)) ?_
    intro a ht
    refine wpl rfl rfl ht (ev_move ht rfl rfl) ?_
    intro a ht
    obtain ⟨t12, et12, H⟩ := bind_get H
    have hcall := spec_l01Part.calls q4 _ _ As0_1 cs0_2 ms0_3 x ls0_4 _ ((fun (hq : Ms _ _ _ ([] ++ [.vec As0_1 cs0_2 2 1 ms0_3 (ints ls0_4), .blk b2 28 (Col.cells Col.zero), .blk b1 28 (Col.cells x)]) _ _) => hq.lend (φp := [IntsAt As0_1 cs0_2 ms0_3 ls0_4]) (allRO_cons (hq.lendVec 0 rfl) (allRO_nil))) (hm.pick (own' := [] ++ [.vec As0_1 cs0_2 2 1 ms0_3 (ints ls0_4), .blk b2 28 (Col.cells Col.zero), .blk b1 28 (Col.cells x)]) [0, 1, 2] rfl (by decide))) et12
    refine wpl_call _ rfl rfl ht rfl rfl rfl rfl can_77 hcall ?_
    clear hcall
    rintro _ w ⟨rfl, hpost⟩ a ht
    replace hm := (hm.pick (own' := [] ++ [.vec As0_1 cs0_2 2 1 ms0_3 (ints ls0_4), .blk b2 28 (Col.cells Col.zero), .blk b1 28 (Col.cells x)]) [0, 1, 2] rfl (by decide)).backL hpost
    clear hpost
    refine wpl_store_whole 1 rfl rfl ht hm rfl rfl rfl (szn_28.trans (by first | rw [Col.length_cells] | rfl)) rfl (by simp only [Col.length_cells]) (Col.cells_one _) ?_
    intro a ht w hm
    refine wpList_nil ?_
    refine then_normal ?_
    refine wp_ret ?_
    have hres := ht.res (P := Try.prog) (w := w) (rs := [.cell 4 28]) (vs := [.agg (Col.cells t12).toArray]) (.agg rfl (ag_28.trans (by first | rw [Col.length_cells] | rfl)) (hm.blk_all 1 rfl) .nil)
    obtain rfl := Option.some.inj H
    exact leave ht rfl hres ⟨rfl, ((hm.pick [] rfl (by decide)).pickφ [] rfl).post fun _ h => h⟩

/-! ### spec_TakePoint: function 30 (loop.example/g01362/spec.TakePoint) -/
def spec_TakePoint.f (k : Nat) (x : Col) (p : Int) : Option (Col × Int) := (spec_l01Given.f k x 0 ([p])).bind fun t4 => if t4 ≠ 0 then (some (Col.zero, t4)) else (if x.p = 1 then (some (Col.zero, 5)) else ((spec_l01Take.f k x p).bind fun t7 => some (t7, 0)))
set_option maxRecDepth 100000 in
set_option maxHeartbeats 1000000 in
theorem spec_TakePoint.calls (k : Nat) (X : List Nat) (w0 : World)  (x : Col) (p : Int) (r : Col × Int)
    (hp : Pre X w0 [] []) (H : spec_TakePoint.f k x p = some r) :
    Calls Try.prog 30 [.agg (Col.cells x).toArray, .int .i64 p].toArray w0 (Ret fun v w => v = .tuple [.agg (Col.cells r.1).toArray, .int .i64 r.2].toArray ∧ Post X (fps []) w0 [] [] w) := by
  unfold spec_TakePoint.f at H
  refine enterM (n := 22) hp Try.func30 rfl rfl (Nat.le_of_ble_eq_true rfl) fun a w ht hm => ?_
  refine wp_seq ?_
  refine wpr ?_
  refine wpl_box rfl rfl ht hm rfl rfl rfl ?_
  intro b1 a ht w hm
  refine wpl_alloc rfl rfl ht hm rfl zo_28 ?_
  intro b2 a ht w hm
  refine wpl rfl rfl ht (ev_assign ht rfl rfl) ?_
  intro a ht
  refine wpList_nil ?_
  refine then_normal ?_
  refine wp_seq ?_
  refine wp_seq ?_
  refine wpr ?_
  refine wpl rfl rfl ht (ev_load_agg ht rfl rfl (ag_28.trans (by first | rw [Col.length_cells] | rfl)) (hm.blk_all 1 rfl)) ?_
  intro a ht
  refine wpl rfl rfl ht (ev_move ht rfl rfl) ?_
  intro a ht
  refine wpl_build_ints (l := [p]) rfl rfl ht hm rfl und_25 zo_2 sz1_2 (by decide) rfl rfl rfl ?_
  intro A3 a ht w hm
  obtain ⟨t4, et4, H⟩ := bind_get H
  have hcall := spec_l01Given.calls k _ _ A3 1 1 x 0 ([p]) _ ((fun (hq : Ms _ _ _ ([] ++ [.vec A3 1 2 1 1 (ints ([p])), .blk b2 28 (Col.cells Col.zero), .blk b1 28 (Col.cells x)]) _ _) => hq.lend (φp := [IntsAt A3 1 1 ([p])]) (allRO_cons (hq.lendVec 0 rfl) (allRO_nil))) (hm.pick (own' := [] ++ [.vec A3 1 2 1 1 (ints ([p])), .blk b2 28 (Col.cells Col.zero), .blk b1 28 (Col.cells x)]) [0, 1, 2] rfl (by decide))) et4
  refine wpl_call _ rfl rfl ht rfl rfl rfl rfl can_42 hcall ?_
  clear hcall
  rintro _ w ⟨rfl, hpost⟩ a ht
  replace hm := (hm.pick (own' := [] ++ [.vec A3 1 2 1 1 (ints ([p])), .blk b2 28 (Col.cells Col.zero), .blk b1 28 (Col.cells x)]) [0, 1, 2] rfl (by decide)).backL hpost
  clear hpost
  refine wpl rfl rfl ht (ev_assign ht rfl rfl) ?_
  intro a ht
  refine wpList_nil ?_
  refine then_normal ?_
  refine wp_seq ?_
  refine wpr ?_
  refine wpl rfl rfl ht (ev_move ht rfl rfl) ?_
  intro a ht
  refine wpl rfl rfl ht (ev_cmp ht rfl rfl rfl rfl) ?_
  intro a ht
  refine wpList_nil ?_
  refine then_normal ?_
  by_cases h5 : t4 ≠ 0
  · replace H := ite_yes h5 H
    refine wpc_yes ht rfl (decide_eq_true h5) ?_
    refine wp_seq ?_
    refine wpr ?_
    refine wpl rfl rfl ht (ev_build (vs := Col.cells Col.zero) ht rfl bi_28 rfl rfl) ?_
    intro a ht
    refine wpl rfl rfl ht (ev_move ht rfl rfl) ?_
    intro a ht
    refine wpl_store_whole 1 rfl rfl ht hm rfl rfl rfl (szn_28.trans (by first | rw [Col.length_cells] | rfl)) rfl (by simp only [Col.length_cells]) (Col.cells_one _) ?_
    intro a ht w hm
    refine wpl rfl rfl ht (ev_assign ht rfl rfl) ?_
    intro a ht
    refine wpList_nil ?_
    refine then_normal ?_
    refine wp_ret ?_
    refine then_ret ?_
    have hres := ht.res (P := Try.prog) (w := w) (rs := [.cell 4 28, .tmp 5]) (vs := [.agg (Col.cells Col.zero).toArray, .int .i64 t4]) (.agg rfl (ag_28.trans (by first | rw [Col.length_cells] | rfl)) (hm.blk_all 1 rfl) (.tmp rfl .nil))
    obtain rfl := Option.some.inj H
    exact leave ht rfl hres ⟨rfl, ((hm.pick [] rfl (by decide)).pickφ [] rfl).post fun _ h => h⟩
  · replace H := ite_no h5 H
    refine wpc_no ht rfl (decide_eq_false h5) ?_
    refine wp_skip ?_
    refine then_normal ?_
    refine wp_seq ?_
    refine wp_seq ?_
    refine wpr ?_
    refine wpl rfl rfl ht (ev_fieldAddr ht rfl rfl fo_28_0) ?_
    intro a ht
    refine wpl rfl rfl ht (ev_load ht rfl rfl sc_2 (hm.blk_cell 2 rfl rfl)) ?_
    intro a ht
    refine wpl rfl rfl ht (ev_cmp ht rfl rfl rfl rfl) ?_
    intro a ht
    refine wpList_nil ?_
    refine then_normal ?_
    by_cases h6 : x.p = 1
    · replace H := ite_yes h6 H
      refine wpc_yes ht rfl (decide_eq_true h6) ?_
      refine wp_seq ?_
      refine wpr ?_
      refine wpl rfl rfl ht (ev_build (vs := Col.cells Col.zero) ht rfl bi_28 rfl rfl) ?_
      intro a ht
      refine wpl_store_whole 1 rfl rfl ht hm rfl rfl rfl (szn_28.trans (by first | rw [Col.length_cells] | rfl)) rfl (by simp only [Col.length_cells]) (Col.cells_one _) ?_
      intro a ht w hm
      refine wpl rfl rfl ht (ev_assign ht rfl rfl) ?_
      intro a ht
      refine wpList_nil ?_
      refine then_normal ?_
      refine wp_ret ?_
      refine then_ret ?_
      have hres := ht.res (P := Try.prog) (w := w) (rs := [.cell 4 28, .tmp 5]) (vs := [.agg (Col.cells Col.zero).toArray, .int .i64 5]) (.agg rfl (ag_28.trans (by first | rw [Col.length_cells] | rfl)) (hm.blk_all 1 rfl) (.tmp rfl .nil))
      obtain rfl := Option.some.inj H
      exact leave ht rfl hres ⟨rfl, ((hm.pick [] rfl (by decide)).pickφ [] rfl).post fun _ h => h⟩
    · replace H := ite_no h6 H
      refine wpc_no ht rfl (decide_eq_false h6) ?_
      refine wp_skip ?_
      refine then_normal ?_
      refine wp_seq ?_
      refine wpr ?_
      refine wpl rfl rfl ht (ev_load_agg ht rfl rfl (ag_28.trans (by first | rw [Col.length_cells] | rfl)) (hm.blk_all 2 rfl)) ?_
      intro a ht
      refine wpl rfl rfl ht (ev_move ht rfl rfl) ?_
      intro a ht
      obtain ⟨t7, et7, H⟩ := bind_get H
      have hcall := spec_l01Take.calls k _ _ x p _ ((fun (hq : Ms _ _ _ ([] ++ [.vec A3 1 2 1 1 (ints ([p])), .blk b2 28 (Col.cells Col.zero), .blk b1 28 (Col.cells x)]) _ _) => hq.lend (φp := []) (allRO_nil)) (hm.pick (own' := [] ++ [.vec A3 1 2 1 1 (ints ([p])), .blk b2 28 (Col.cells Col.zero), .blk b1 28 (Col.cells x)]) [0, 1, 2] rfl (by decide))) et7
      refine wpl_call _ rfl rfl ht rfl rfl rfl rfl can_69 hcall ?_
      clear hcall
      rintro _ w ⟨rfl, hpost⟩ a ht
      replace hm := (hm.pick (own' := [] ++ [.vec A3 1 2 1 1 (ints ([p])), .blk b2 28 (Col.cells Col.zero), .blk b1 28 (Col.cells x)]) [0, 1, 2] rfl (by decide)).backL hpost
      clear hpost
      refine wpl_store_whole 1 rfl rfl ht hm rfl rfl rfl (szn_28.trans (by first | rw [Col.length_cells] | rfl)) rfl (by simp only [Col.length_cells]) (Col.cells_one _) ?_
      intro a ht w hm
      refine wpl rfl rfl ht (ev_assign ht rfl rfl) ?_
      intro a ht
      refine wpList_nil ?_
      refine then_normal ?_
      refine wp_ret ?_
      have hres := ht.res (P := Try.prog) (w := w) (rs := [.cell 4 28, .tmp 5]) (vs := [.agg (Col.cells t7).toArray, .int .i64 0]) (.agg rfl (ag_28.trans (by first | rw [Col.length_cells] | rfl)) (hm.blk_all 1 rfl) (.tmp rfl .nil))
      obtain rfl := Option.some.inj H
      exact leave ht rfl hres ⟨rfl, ((hm.pick [] rfl (by decide)).pickφ [] rfl).post fun _ h => h⟩

/-! ### impl_in: function 89 (loop.example/g01362/impl.in) -/
def impl_in.f (n_ : Int) (low : Int) (high : Int) : Option (Bool) := if n_ ≥ low then (some (decide (n_ ≤ high))) else (some false)
set_option maxRecDepth 100000 in
set_option maxHeartbeats 1000000 in
theorem impl_in.calls (X : List Nat) (w0 : World)  (n_ : Int) (low : Int) (high : Int) (r : Bool)
    (hp : Pre X w0 [] []) (H : impl_in.f n_ low high = some r) :
    Calls Try.prog 89 [.int .i64 n_, .int .i64 low, .int .i64 high].toArray w0 (Ret fun v w => v = .bool r ∧ Post X (fps []) w0 [] [] w) := by
  unfold impl_in.f at H
  refine enterM (n := 15) hp Try.func89 rfl rfl (Nat.le_of_ble_eq_true rfl) fun a w ht hm => ?_
  refine wp_seq ?_
  refine wpr ?_
  refine wpl rfl rfl ht (ev_assign ht rfl rfl) ?_
  intro a ht
  refine wpList_nil ?_
  refine then_normal ?_
  refine wp_seq ?_
  refine wpr ?_
  refine wpl rfl rfl ht (ev_move ht rfl rfl) ?_
  intro a ht
  refine wpl rfl rfl ht (ev_move ht rfl rfl) ?_
  intro a ht
  refine wpl rfl rfl ht (ev_cmp ht rfl rfl rfl rfl) ?_
  intro a ht
  refine wpl rfl rfl ht (ev_move ht rfl rfl) ?_
  intro a ht
  by_cases h1 : n_ ≥ low
  · replace H := ite_yes h1 H
    refine wpl_yes rfl ht rfl ((decide_eq_true h1)) ?_
    refine wpl rfl rfl ht (ev_move ht rfl rfl) ?_
    intro a ht
    refine wpl_yes rfl ht rfl ((decide_eq_true h1)) ?_
    refine wpl rfl rfl ht (ev_move ht rfl rfl) ?_
    intro a ht
    refine wpl_yes rfl ht rfl ((decide_eq_true h1)) ?_
    refine wpl rfl rfl ht (ev_cmp ht rfl rfl rfl rfl) ?_
    intro a ht
    refine wpl rfl rfl ht (ev_pick_yes ht rfl rfl (decide_eq_true h1) rfl) ?_
    intro a ht
    refine wpl rfl rfl ht (ev_assign ht rfl rfl) ?_
    intro a ht
    refine wpList_nil ?_
    refine then_normal ?_
    refine wp_ret ?_
    have hres := ht.res (P := Try.prog) (w := w) (rs := [.tmp 6]) (vs := [.bool (decide (n_ ≤ high))]) (.tmp rfl .nil)
    obtain rfl := Option.some.inj H
    exact leave ht rfl hres ⟨rfl, ((hm.pick [] rfl (by decide)).pickφ [] rfl).post fun _ h => h⟩
  · replace H := ite_no h1 H
    refine wpl_no rfl rfl ht rfl (by rw [(decide_eq_false h1)]; decide) ?_
    intro a ht
    refine wpl_no rfl rfl ht rfl (by rw [(decide_eq_false h1)]; decide) ?_
    intro a ht
    refine wpl_no rfl rfl ht rfl (by rw [(decide_eq_false h1)]; decide) ?_
    intro a ht
    refine wpl rfl rfl ht (ev_pick_no ht rfl rfl (decide_eq_false h1) rfl) ?_
    intro a ht
    refine wpl rfl rfl ht (ev_assign ht rfl rfl) ?_
    intro a ht
    refine wpList_nil ?_
    refine then_normal ?_
    refine wp_ret ?_
    have hres := ht.res (P := Try.prog) (w := w) (rs := [.tmp 6]) (vs := [.bool false]) (.tmp rfl .nil)
    obtain rfl := Option.some.inj H
    exact leave ht rfl hres ⟨rfl, ((hm.pick [] rfl (by decide)).pickφ [] rfl).post fun _ h => h⟩

/-! ### impl_Colouring_edges: function 104 ((*loop.example/g01362/impl.Colouring).edges) -/
def impl_Colouring_edges.f (x : Col) : Option (Int) := some (w64 (Int.tdiv (w64 (x.p * (w64 (x.p - 1)))) 2))
set_option maxRecDepth 100000 in
set_option maxHeartbeats 1000000 in
theorem impl_Colouring_edges.calls (X : List Nat) (w0 : World) (b : Nat) (x : Col) (r : Int)
    (hp : Pre X w0 [.blk b 28 (Col.cells x)] []) (H : impl_Colouring_edges.f x = some r) :
    Calls Try.prog 104 [.pointer (some ⟨b, 0, none⟩)].toArray w0 (Ret fun v w => v = .int .i64 r ∧ Post X (fps [.blk b 28 (Col.cells x)]) w0 [.blk b 28 (Col.cells x)] [] w) := by
  unfold impl_Colouring_edges.f at H
  refine enterM (n := 14) hp Try.func104 rfl rfl (Nat.le_of_ble_eq_true rfl) fun a w ht hm => ?_
  refine wp_seq ?_
  refine wpr ?_
  refine wpl rfl rfl ht (ev_assign ht rfl rfl) ?_
  intro a ht
  refine wpList_nil ?_
  refine then_normal ?_
  refine wp_seq ?_
  refine wph_begin (fun w => Ms X (fps [.blk b 28 (Col.cells x)]) w0 [.blk b 28 (Col.cells x)] [] w) mixed ?_
  replace hm := hm.drew
  have hS : Ms X (fps [.blk b 28 (Col.cells x)]) w0 [.blk b 28 (Col.cells x)] [] w.drew := (hm.pick [0] rfl (by decide)).pickφ [] rfl
  generalize w.drew = w at hm hS ⊢
  refine wph_take (i := 0) rfl (by kernel_rfl) (by kernel_rfl) (by kernel_rfl) (fun _ _ _ h => h) rfl ht hS (wanted_plain rfl) (fun w hm => ev_move ht rfl rfl) ?_
  intro a ht
  refine wph_take (i := 1) rfl (by kernel_rfl) (by kernel_rfl) (by kernel_rfl) (fun _ _ _ h => h) rfl ht hS (wanted_plain rfl) (fun w hm => ev_nilCheck ht rfl rfl) ?_
  intro a ht
  refine wph_take (i := 2) rfl (by kernel_rfl) (by kernel_rfl) (by kernel_rfl) (fun _ _ _ h => h) rfl ht hS (wanted_plain rfl) (fun w hm => ev_fieldAddr ht rfl rfl fo_28_0) ?_
  intro a ht
  refine wph_take (i := 3) rfl (by kernel_rfl) (by kernel_rfl) (by kernel_rfl) (fun _ _ _ h => h) rfl ht hS (wanted_plain rfl) (fun w hm => ev_load ht rfl rfl sc_2 (hm.blk_cell 0 rfl rfl)) ?_
  intro a ht
  refine wph_take (i := 4) rfl (by kernel_rfl) (by kernel_rfl) (by kernel_rfl) (fun _ _ _ h => h) rfl ht hS (wanted_plain rfl) (fun w hm => ev_move ht rfl rfl) ?_
  intro a ht
  refine wph_take (i := 5) rfl (by kernel_rfl) (by kernel_rfl) (by kernel_rfl) (fun _ _ _ h => h) rfl ht hS (wanted_plain rfl) (fun w hm => ev_nilCheck ht rfl rfl) ?_
  intro a ht
  refine wph_take (i := 6) rfl (by kernel_rfl) (by kernel_rfl) (by kernel_rfl) (fun _ _ _ h => h) rfl ht hS (wanted_plain rfl) (fun w hm => ev_fieldAddr ht rfl rfl fo_28_0) ?_
  intro a ht
  refine wph_take (i := 7) rfl (by kernel_rfl) (by kernel_rfl) (by kernel_rfl) (fun _ _ _ h => h) rfl ht hS (wanted_plain rfl) (fun w hm => ev_load ht rfl rfl sc_2 (hm.blk_cell 0 rfl rfl)) ?_
  intro a ht
  refine wph_take (i := 8) rfl (by kernel_rfl) (by kernel_rfl) (by kernel_rfl) (fun _ _ _ h => h) rfl ht hS (wanted_plain rfl) (fun w hm => ev_arith ht rfl rfl rfl rfl) ?_
  intro a ht
  refine wph_take (i := 9) rfl (by kernel_rfl) (by kernel_rfl) (by kernel_rfl) (fun _ _ _ h => h) rfl ht hS (wanted_plain rfl) (fun w hm => ev_arith ht rfl rfl rfl rfl) ?_
  intro a ht
  refine wph_take (i := 10) rfl (by kernel_rfl) (by kernel_rfl) (by kernel_rfl) (fun _ _ _ h => h) rfl ht hS (wanted_plain rfl) (fun w hm => ev_quo ht rfl rfl rfl (by decide)) ?_
  intro a ht
  refine wph_take (i := 11) rfl (by kernel_rfl) (by kernel_rfl) (by kernel_rfl) (fun _ _ _ h => h) rfl ht hS (wanted_plain rfl) (fun w hm => ev_assign ht rfl rfl) ?_
  intro a ht
  refine wph_done (by kernel_rfl) ?_
  refine then_normal ?_
  refine wp_ret ?_
  have hres := ht.res (P := Try.prog) (w := w) (rs := [.tmp 2]) (vs := [.int .i64 (w64 (Int.tdiv (w64 (x.p * (w64 (x.p - 1)))) 2))]) (.tmp rfl .nil)
  obtain rfl := Option.some.inj H
  exact leave ht rfl hres ⟨rfl, ((hm.pick [0] rfl (by decide)).pickφ [] rfl).post fun _ h => h⟩

end Go.Proofs.Ytfhbamlpnicomaa.G
