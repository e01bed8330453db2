/- What each Go function computes, as a Lean function, and the proof that it does: written by a program of this session (wip/gen), part 4. -/
import Derived.Test.YtbgniopmmankdaaGFnExactIsSelfAlike3
namespace Go.Proofs.Ytbgniopmmankdaa.G
open Go Go.RowKit Go.Proofs.Ytbgniopmmankdaa.K
set_option linter.unusedVariables false
set_option linter.unusedSimpArgs false

/-! ### spec_l06Between: function 21 (loop.example/g01362/spec.l06Between) -/
def spec_l06Between.f (k : Nat) (x : Col) (y : Col) (most : Int) : Option (Col × Col × List Int × List Int × Int × Int × List Int) := (spec_l06Types.f k x).bind fun t3503 => (spec_l06Types.f k y).bind fun t5503 => if x.p ≠ y.p then (some (x, y, t3503, t5503, most, 0, ([] : List Int))) else (if x.k ≠ y.k then (some (x, y, t3503, t5503, most, 0, ([] : List Int))) else ((spec_l06Go.f k x y t3503 t5503 most 0 ([]) ([] : List Int) 0).bind fun t11009 => some (t11009.1, t11009.2.1, t11009.2.2.1, t11009.2.2.2.1, t11009.2.2.2.2.1, t11009.2.2.2.2.2.1, t11009.2.2.2.2.2.2)))
set_option maxRecDepth 100000 in
set_option maxHeartbeats 20000000 in
theorem spec_l06Between.calls (k : Nat) (X : List Nat) (w0 : World)  (x : Col) (y : Col) (most : Int) (r : Col × Col × List Int × List Int × Int × Int × List Int)
    (hp : Pre X w0 [] []) (H : spec_l06Between.f k x y most = some r) :
    Calls Try.prog 21 [.agg (Col.cells x).toArray, .agg (Col.cells y).toArray, .int .i64 most].toArray w0 (Ret fun v w => ∃ (b_0 : Nat) (A_2 : Option Addr) (c_2 : Nat) (n_2 : Nat) (A_3 : Option Addr) (c_3 : Nat) (n_3 : Nat) (A_6 : Option Addr) (c_6 : Nat) (n_6 : Nat), v = .pointer (some ⟨b_0, 0, none⟩) ∧ Post X (fps []) w0 [.blk b_0 45 (Col.cells r.1 ++ (Col.cells r.2.1 ++ ([.slice A_2 n_2 c_2, .slice A_3 n_3 c_3, .int .i64 r.2.2.2.2.1, .int .i64 r.2.2.2.2.2.1, .slice A_6 n_6 c_6])))] [IntsAt A_2 c_2 n_2 r.2.2.1, IntsAt A_3 c_3 n_3 r.2.2.2.1, IntsAt A_6 c_6 n_6 r.2.2.2.2.2.2] w) := by
  unfold spec_l06Between.f at H
  refine enterM (n := 34) hp Try.func21 rfl rfl (Nat.le_of_ble_eq_true rfl) fun a w ht hm => ?_
  refine wp_seq ?_
  refine wpr ?_
  refine wpl_box rfl rfl ht hm rfl rfl rfl ?_
  intro b1 a ht w hm
  refine wpl_box rfl rfl ht hm rfl rfl rfl ?_
  intro b2 a ht w hm
  refine wpl rfl rfl ht (ev_assign ht rfl rfl) ?_
  intro a ht
  refine wpList_nil ?_
  refine then_normal ?_
  refine wp_seq ?_
  refine wph_begin (fun w => Ms X (fps []) w0 [.blk b2 27 (Col.cells y), .blk b1 27 (Col.cells x)] [] w) mixed ?_
  replace hm := hm.drew
  have hS : Ms X (fps []) w0 [.blk b2 27 (Col.cells y), .blk b1 27 (Col.cells x)] [] w.drew := (hm.pick [0, 1] rfl (by decide)).pickφ [] rfl
  generalize w.drew = w at hm hS ⊢
  refine wph_take (i := 0) rfl (by kernel_rfl) (by kernel_rfl) (by kernel_rfl) (fun _ _ _ h => h) rfl ht hS (wanted_plain rfl) (fun w hm => ev_load_agg ht rfl rfl (ag_27.trans (by first | rw [Col.length_cells] | rfl)) (hm.blk_all 1 rfl)) ?_
  intro a ht
  refine wph_take (i := 1) rfl (by kernel_rfl) (by kernel_rfl) (by kernel_rfl) (fun _ _ _ h => h) rfl ht hS (wanted_plain rfl) (fun w hm => ev_load_agg ht rfl rfl (ag_27.trans (by first | rw [Col.length_cells] | rfl)) (hm.blk_all 0 rfl)) ?_
  intro a ht
  refine wph_take (i := 2) rfl (by kernel_rfl) (by kernel_rfl) (by kernel_rfl) (fun _ _ _ h => h) rfl ht hS (wanted_plain rfl) (fun w hm => ev_load_agg ht rfl rfl (ag_27.trans (by first | rw [Col.length_cells] | rfl)) (hm.blk_all 1 rfl)) ?_
  intro a ht
  refine wph_take (i := 4) rfl (by kernel_rfl) (by kernel_rfl) (by kernel_rfl) (fun _ _ _ h => h) rfl ht hS (wanted_plain rfl) (fun w hm => ev_load_agg ht rfl rfl (ag_27.trans (by first | rw [Col.length_cells] | rfl)) (hm.blk_all 0 rfl)) ?_
  intro a ht
  refine wph_take (i := 6) rfl (by kernel_rfl) (by kernel_rfl) (by kernel_rfl) (fun _ _ _ h => h) rfl ht hS (wanted_plain rfl) (fun w hm => ev_move ht rfl rfl) ?_
  intro a ht
  refine wph_one (i := 3) (by kernel_rfl) (wph_step rfl ?_)
  obtain ⟨t3503, et3503, H⟩ := bind_get H
  have hcall := spec_l06Types.calls k _ _ x _ ((fun (hq : Ms _ _ _ ([] ++ [.blk b2 27 (Col.cells y), .blk b1 27 (Col.cells x)]) _ _) => hq.lend (φp := []) (allRO_nil)) (hm.pick (own' := [] ++ [.blk b2 27 (Col.cells y), .blk b1 27 (Col.cells x)]) [0, 1] rfl (by decide))) et3503
  refine wpl_call _ rfl rfl ht rfl rfl rfl rfl can_44 hcall ?_
  clear hcall
  rintro _ w ⟨A3504, c3505, m3506, rfl, hpost⟩ a ht
  replace hm := (hm.pick (own' := [] ++ [.blk b2 27 (Col.cells y), .blk b1 27 (Col.cells x)]) [0, 1] rfl (by decide)).backL hpost
  clear hpost
  have hS : Ms X (fps []) w0 [.blk b2 27 (Col.cells y), .blk b1 27 (Col.cells x)] [] w := (hm.pick [1, 2] rfl (by decide)).pickφ [] rfl
  refine wpList_nil (qn ⟨hS, ?_⟩)
  refine wph_one (i := 5) (by kernel_rfl) (wph_step rfl ?_)
  obtain ⟨t5503, et5503, H⟩ := bind_get H
  have hcall := spec_l06Types.calls k _ _ y _ ((fun (hq : Ms _ _ _ ([] ++ [.vec A3504 c3505 2 1 m3506 (ints t3503), .blk b2 27 (Col.cells y), .blk b1 27 (Col.cells x)]) _ _) => hq.lend (φp := []) (allRO_nil)) (hm.pick (own' := [] ++ [.vec A3504 c3505 2 1 m3506 (ints t3503), .blk b2 27 (Col.cells y), .blk b1 27 (Col.cells x)]) [0, 1, 2] rfl (by decide))) et5503
  refine wpl_call _ rfl rfl ht rfl rfl rfl rfl can_44 hcall ?_
  clear hcall
  rintro _ w ⟨A5504, c5505, m5506, rfl, hpost⟩ a ht
  replace hm := (hm.pick (own' := [] ++ [.vec A3504 c3505 2 1 m3506 (ints t3503), .blk b2 27 (Col.cells y), .blk b1 27 (Col.cells x)]) [0, 1, 2] rfl (by decide)).backL hpost
  clear hpost
  have hS : Ms X (fps []) w0 [.blk b2 27 (Col.cells y), .blk b1 27 (Col.cells x)] [] w := (hm.pick [2, 3] rfl (by decide)).pickφ [] rfl
  refine wpList_nil (qn ⟨hS, ?_⟩)
  refine wph_take (i := 7) rfl (by kernel_rfl) (by kernel_rfl) (by kernel_rfl) (fun _ _ _ h => h) rfl ht hS (wanted_plain rfl) (fun w hm => ev_build (vs := (Col.cells x ++ (Col.cells y ++ ([.slice A3504 m3506 c3505, .slice A5504 m5506 c5505, .int .i64 most, .int .i64 0, .slice none 0 0])))) ht rfl bi_45 rfl (fill_two _ _ _ _ _ _ _ _ _ _ rfl rfl rfl)) ?_
  intro a ht
  refine wph_one (i := 8) (by kernel_rfl) (wph_step rfl ?_)
  refine wpl_box rfl rfl ht hm rfl rfl rfl ?_
  intro b8503 a ht w hm
  have hS : Ms X (fps []) w0 [.blk b2 27 (Col.cells y), .blk b1 27 (Col.cells x)] [] w := (hm.pick [3, 4] rfl (by decide)).pickφ [] rfl
  refine wpList_nil (qn ⟨hS, ?_⟩)
  refine wph_take (i := 9) rfl (by kernel_rfl) (by kernel_rfl) (by kernel_rfl) (fun _ _ _ h => h) rfl ht hS (wanted_plain rfl) (fun w hm => ev_assign ht rfl rfl) ?_
  intro a ht
  refine wph_done (by kernel_rfl) ?_
  replace hm := hm.pick (own' := [.vec A3504 c3505 2 1 m3506 (ints t3503), .vec A5504 c5505 2 1 m5506 (ints t5503), .blk b8503 45 (Col.cells x ++ (Col.cells y ++ ([.slice A3504 m3506 c3505, .slice A5504 m5506 c5505, .int .i64 most, .int .i64 0, .slice none 0 0]))), .blk b2 27 (Col.cells y), .blk b1 27 (Col.cells x)]) [2, 1, 0, 3, 4] rfl (by decide)
  refine then_normal ?_
  refine wp_seq ?_
  refine wp_seq ?_
  refine wpr ?_
  refine wpl rfl rfl ht (ev_fieldAddr ht rfl rfl fo_27_0) ?_
  intro a ht
  refine wpl rfl rfl ht (ev_load ht rfl rfl sc_2 (hm.blk_cell 4 rfl rfl)) ?_
  intro a ht
  refine wpl rfl rfl ht (ev_fieldAddr ht rfl rfl fo_27_0) ?_
  intro a ht
  refine wpl rfl rfl ht (ev_load ht rfl rfl sc_2 (hm.blk_cell 3 rfl rfl)) ?_
  intro a ht
  refine wpl rfl rfl ht (ev_cmp ht rfl rfl rfl rfl) ?_
  intro a ht
  refine wpl rfl rfl ht (ev_move ht rfl rfl) ?_
  intro a ht
  by_cases h11003 : x.p ≠ y.p
  · replace H := ite_yes h11003 H
    refine wpl_no rfl rfl ht rfl (by rw [(decide_eq_true h11003)]; decide) ?_
    intro a ht
    refine wpl_no rfl rfl ht rfl (by rw [(decide_eq_true h11003)]; decide) ?_
    intro a ht
    refine wpl_no rfl rfl ht rfl (by rw [(decide_eq_true h11003)]; decide) ?_
    intro a ht
    refine wpl_no rfl rfl ht rfl (by rw [(decide_eq_true h11003)]; decide) ?_
    intro a ht
    refine wpl_no rfl rfl ht rfl (by rw [(decide_eq_true h11003)]; decide) ?_
    intro a ht
    refine wpl rfl rfl ht (ev_pick_yes ht rfl rfl (decide_eq_true h11003) rfl) ?_
    intro a ht
    refine wpList_nil ?_
    refine then_normal ?_
    refine wpc_yes ht rfl rfl ?_
    refine wp_seq ?_
    refine wpr ?_
    refine wpl rfl rfl ht (ev_move ht rfl rfl) ?_
    intro a ht
    refine wpl rfl rfl ht (ev_assign ht rfl rfl) ?_
    intro a ht
    refine wpList_nil ?_
    refine then_normal ?_
    refine wp_ret ?_
    refine then_ret ?_
    have hres := ht.res (P := Try.prog) (w := w) (rs := [.tmp 6]) (vs := [.pointer (some ⟨b8503, 0, none⟩)]) (.tmp rfl .nil)
    replace hm : Ms _ _ _ _ (IntsAt A3504 c3505 m3506 t3503 :: _) w := hm.shutVec 0 rfl
    replace hm : Ms _ _ _ _ (IntsAt A5504 c5505 m5506 t5503 :: _) w := hm.shutVec 0 rfl
    replace hm : Ms _ _ _ _ (IntsAt none 0 0 ([] : List Int) :: _) w := hm.nilRow none 1
    obtain rfl := Option.some.inj H
    exact leave ht rfl hres ⟨b8503, A3504, c3505, m3506, A5504, c5505, m5506, none, 0, 0, rfl, ((hm.pick [0] rfl (by decide)).pickφ [2, 1, 0] rfl).post fun _ h => h⟩
  · replace H := ite_no h11003 H
    refine wpl_yes rfl ht rfl ((decide_eq_false h11003)) ?_
    refine wpl rfl rfl ht (ev_fieldAddr ht rfl rfl fo_27_1) ?_
    intro a ht
    refine wpl_yes rfl ht rfl ((decide_eq_false h11003)) ?_
    refine wpl rfl rfl ht (ev_load ht rfl rfl sc_2 (hm.blk_cell 4 rfl rfl)) ?_
    intro a ht
    refine wpl_yes rfl ht rfl ((decide_eq_false h11003)) ?_
    refine wpl rfl rfl ht (ev_fieldAddr ht rfl rfl fo_27_1) ?_
    intro a ht
    refine wpl_yes rfl ht rfl ((decide_eq_false h11003)) ?_
    refine wpl rfl rfl ht (ev_load ht rfl rfl sc_2 (hm.blk_cell 3 rfl rfl)) ?_
    intro a ht
    refine wpl_yes rfl ht rfl ((decide_eq_false h11003)) ?_
    refine wpl rfl rfl ht (ev_cmp ht rfl rfl rfl rfl) ?_
    intro a ht
    refine wpl rfl rfl ht (ev_pick_no ht rfl rfl (decide_eq_false h11003) rfl) ?_
    intro a ht
    refine wpList_nil ?_
    refine then_normal ?_
    by_cases h11005 : x.k ≠ y.k
    · replace H := ite_yes h11005 H
      refine wpc_yes ht rfl (decide_eq_true h11005) ?_
      refine wp_seq ?_
      refine wpr ?_
      refine wpl rfl rfl ht (ev_move ht rfl rfl) ?_
      intro a ht
      refine wpl rfl rfl ht (ev_assign ht rfl rfl) ?_
      intro a ht
      refine wpList_nil ?_
      refine then_normal ?_
      refine wp_ret ?_
      refine then_ret ?_
      have hres := ht.res (P := Try.prog) (w := w) (rs := [.tmp 6]) (vs := [.pointer (some ⟨b8503, 0, none⟩)]) (.tmp rfl .nil)
      replace hm : Ms _ _ _ _ (IntsAt A3504 c3505 m3506 t3503 :: _) w := hm.shutVec 0 rfl
      replace hm : Ms _ _ _ _ (IntsAt A5504 c5505 m5506 t5503 :: _) w := hm.shutVec 0 rfl
      replace hm : Ms _ _ _ _ (IntsAt none 0 0 ([] : List Int) :: _) w := hm.nilRow none 1
      obtain rfl := Option.some.inj H
      exact leave ht rfl hres ⟨b8503, A3504, c3505, m3506, A5504, c5505, m5506, none, 0, 0, rfl, ((hm.pick [0] rfl (by decide)).pickφ [2, 1, 0] rfl).post fun _ h => h⟩
    · replace H := ite_no h11005 H
      refine wpc_no ht rfl (decide_eq_false h11005) ?_
      refine wp_skip ?_
      refine then_normal ?_
      refine wp_seq ?_
      refine wpr ?_
      refine wpl rfl rfl ht (ev_move ht rfl rfl) ?_
      intro a ht
      refine wpl_build_ints (l := ([] : List Int)) rfl rfl ht hm rfl und_43 zo_2 sz1_2 (by decide) rfl rfl rfl ?_
      intro A11007 a ht w hm
      replace hm : Ms _ _ _ _ (IntsAt A3504 c3505 m3506 t3503 :: _) w := hm.shutVec 1 rfl
      replace hm : Ms _ _ _ _ (IntsAt A5504 c5505 m5506 t5503 :: _) w := hm.shutVec 1 rfl
      replace hm : Ms _ _ _ _ (IntsAt A11007 0 0 ([] : List Int) :: _) w := hm.shutVec 0 rfl
      replace hm : Ms _ _ _ _ (IntsAt none 0 0 ([] : List Int) :: _) w := hm.nilRow none 1
      obtain ⟨t11009, et11009, H⟩ := bind_get H
      have hcall := spec_l06Go.calls k _ _ b8503 A3504 c3505 m3506 A5504 c5505 m5506 none 0 0 A11007 0 0 x y t3503 t5503 most 0 ([]) ([] : List Int) 0 _ ((hm.pick (own' := [.blk b8503 45 (Col.cells x ++ (Col.cells y ++ ([.slice A3504 m3506 c3505, .slice A5504 m5506 c5505, .int .i64 most, .int .i64 0, .slice none 0 0])))] ++ [.blk b2 27 (Col.cells y), .blk b1 27 (Col.cells x)]) [0, 1, 2] rfl (by decide)).give (passed := [.blk b8503 45 (Col.cells x ++ (Col.cells y ++ ([.slice A3504 m3506 c3505, .slice A5504 m5506 c5505, .int .i64 most, .int .i64 0, .slice none 0 0])))]) (rest := [.blk b2 27 (Col.cells y), .blk b1 27 (Col.cells x)]) (φp := [IntsAt A3504 c3505 m3506 t3503, IntsAt A5504 c5505 m5506 t5503, IntsAt none 0 0 ([] : List Int), IntsAt A11007 0 0 ([] : List Int)]) [3, 2, 0, 1] rfl) et11009
      refine wpl_call _ rfl rfl ht rfl rfl rfl rfl can_45 hcall ?_
      clear hcall
      rintro _ w ⟨A11010, c11011, m11012, A11013, c11014, m11015, A11016, c11017, m11018, rfl, hpost⟩ a ht
      replace hm := (hm.pick (own' := [.blk b8503 45 (Col.cells x ++ (Col.cells y ++ ([.slice A3504 m3506 c3505, .slice A5504 m5506 c5505, .int .i64 most, .int .i64 0, .slice none 0 0])))] ++ [.blk b2 27 (Col.cells y), .blk b1 27 (Col.cells x)]) [0, 1, 2] rfl (by decide)).back hpost
      clear hpost
      refine wpList_nil ?_
      refine then_normal ?_
      refine wp_seq ?_
      refine wpr ?_
      refine wpl rfl rfl ht (ev_move ht rfl rfl) ?_
      intro a ht
      refine wpl rfl rfl ht (ev_assign ht rfl rfl) ?_
      intro a ht
      refine wpList_nil ?_
      refine then_normal ?_
      refine wp_ret ?_
      have hres := ht.res (P := Try.prog) (w := w) (rs := [.tmp 6]) (vs := [.pointer (some ⟨b8503, 0, none⟩)]) (.tmp rfl .nil)
      obtain rfl := Option.some.inj H
      exact leave ht rfl hres ⟨b8503, A11010, c11011, m11012, A11013, c11014, m11015, A11016, c11017, m11018, rfl, ((hm.pick [0] rfl (by decide)).pickφ [0, 1, 2] rfl).post fun _ h => h⟩

/-! ### spec_IsSelfAlike: function 13 (loop.example/g01362/spec.IsSelfAlike) -/
def spec_IsSelfAlike.l0 : Nat → Col → List (List Int) → Int → Option (Bool × Int)
  | 0, _, _, _ => none
  | q10 + 1, x, t5, xs0_1 => if xs0_1 < (t5.length : Int) then ((getR t5 xs0_1).bind fun l3512 => (spec_l01Turned.f q10 x l3512).bind fun t5512 => (spec_l06Between.f q10 t5512 x 1).bind fun t7512 => if t7512.2.2.2.2.2.1 > 0 then (some (true, 0)) else (spec_IsSelfAlike.l0 q10 x t5 (w64 (xs0_1 + 1)))) else (some (false, 0))
def spec_IsSelfAlike.f (k : Nat) (x : Col) : Option (Bool × Int) := (spec_l01Is.f k x).bind fun t2 => if t2 = true then ((spec_l06Orders.f k ([] : List Int) x.k).bind fun t5 => spec_IsSelfAlike.l0 k x t5 1) else (some (false, 1))
set_option maxRecDepth 100000 in
set_option maxHeartbeats 20000000 in
theorem spec_IsSelfAlike.calls (k : Nat) (X : List Nat) (w0 : World)  (x : Col) (r : Bool × Int)
    (hp : Pre X w0 [] []) (H : spec_IsSelfAlike.f k x = some r) :
    Calls Try.prog 13 [.agg (Col.cells x).toArray].toArray w0 (Ret fun v w => v = .tuple [.bool r.1, .int .i64 r.2].toArray ∧ Post X (fps []) w0 [] [] w) := by
  unfold spec_IsSelfAlike.f at H
  refine enterM (n := 31) hp Try.func13 rfl rfl (Nat.le_of_ble_eq_true rfl) fun a w ht hm => ?_
  refine wp_seq ?_
  refine wpr ?_
  refine wpl_box rfl rfl ht hm rfl rfl rfl ?_
  intro b1 a ht w hm
  refine wpl rfl rfl ht (ev_assign ht rfl rfl) ?_
  intro a ht
  refine wpl rfl rfl ht (ev_assign ht rfl rfl) ?_
  intro a ht
  refine wpList_nil ?_
  refine then_normal ?_
  refine wp_seq ?_
  refine wp_seq ?_
  refine wpr ?_
  refine wpl rfl rfl ht (ev_load_agg ht rfl rfl (ag_27.trans (by first | rw [Col.length_cells] | rfl)) (hm.blk_all 0 rfl)) ?_
  intro a ht
  obtain ⟨t2, et2, H⟩ := bind_get H
  have hcall := spec_l01Is.calls k _ _ x _ ((fun (hq : Ms _ _ _ ([] ++ [.blk b1 27 (Col.cells x)]) _ _) => hq.lend (φp := []) (allRO_nil)) (hm.pick (own' := [] ++ [.blk b1 27 (Col.cells x)]) [0] rfl (by decide))) et2
  refine wpl_call _ rfl rfl ht rfl rfl rfl rfl can_20 hcall ?_
  clear hcall
  rintro _ w ⟨rfl, hpost⟩ a ht
  replace hm := (hm.pick (own' := [] ++ [.blk b1 27 (Col.cells x)]) [0] rfl (by decide)).backL hpost
  clear hpost
  refine wpl rfl rfl ht (ev_not ht rfl rfl) ?_
  intro a ht
  refine wpList_nil ?_
  refine then_normal ?_
  by_cases h3 : t2 = true
  · replace H := ite_yes h3 H
    refine wpc_no ht rfl (not_t h3) ?_
    refine wp_skip ?_
    refine then_normal ?_
    refine wp_seq ?_
    refine wpr ?_
    refine wpl_build_ints (l := ([] : List Int)) rfl rfl ht hm rfl und_43 zo_2 sz1_2 (by decide) rfl rfl rfl ?_
    intro A4 a ht w hm
    refine wpl rfl rfl ht (ev_fieldAddr ht rfl rfl fo_27_1) ?_
    intro a ht
    refine wpl rfl rfl ht (ev_load ht rfl rfl sc_2 (hm.blk_cell 1 rfl rfl)) ?_
    intro a ht
    replace hm : Ms _ _ _ _ (IntsAt A4 0 0 ([] : List Int) :: _) w := hm.shutVec 0 rfl
    obtain ⟨t5, et5, H⟩ := bind_get H
    have hcall := spec_l06Orders.calls k _ _ A4 0 0 ([] : List Int) x.k _ ((hm.pick (own' := [] ++ [.blk b1 27 (Col.cells x)]) [0] rfl (by decide)).give (passed := []) (rest := [.blk b1 27 (Col.cells x)]) (φp := [IntsAt A4 0 0 ([] : List Int)]) [0] rfl) et5
    refine wpl_call _ rfl rfl ht rfl rfl rfl rfl can_27 hcall ?_
    clear hcall
    rintro _ w ⟨A6, c7, m8, vs9, rfl, hpost⟩ a ht
    replace hm := (hm.pick (own' := [] ++ [.blk b1 27 (Col.cells x)]) [0] rfl (by decide)).back hpost
    clear hpost
    refine wpl rfl rfl ht (ev_assign ht rfl rfl) ?_
    intro a ht
    refine wpList_nil ?_
    refine then_normal ?_
    refine wp_seq ?_
    refine wp_seq ?_
    refine wpr ?_
    refine wpl rfl rfl ht (ev_assign ht rfl rfl) ?_
    intro a ht
    refine wpList_nil ?_
    refine then_normal ?_
    refine wp_block ?_
    refine wpLoop (fun q a w => ∃ (xs0_1 : Int), spec_IsSelfAlike.l0 q x t5 xs0_1 = some r ∧ q ≤ k ∧ Tm 31 [(1, .pointer (some ⟨b1, 0, none⟩)), (2, .bool false), (3, .int .i64 0), (4, .slice A6 m8 c7), (5, .int .i64 xs0_1)] a ∧ Ms X (fps []) w0 [.vec A6 c7 43 1 m8 vs9, .blk b1 27 (Col.cells x)] [AllInts vs9 t5] w) (k0 := k) ⟨1, H, Nat.le_refl _, ht.sub ⟨rfl, rfl, rfl, rfl, rfl, trivial⟩, (hm.pick [0, 1] rfl (by decide)).pickφ [0] rfl⟩ ?_
    clear H ht hm
    intro q10 a w hJ
    obtain ⟨xs0_1, H, hqq10, ht, hm⟩ := hJ
    cases q10 with
    | zero => cases H
    | succ q10 =>
    rw [spec_IsSelfAlike.l0] at H
    refine wp_seq ?_
    refine wp_seq ?_
    refine wpr ?_
    refine wpl rfl rfl ht (ev_move ht rfl rfl) ?_
    intro a ht
    refine wpl rfl rfl ht (ev_move ht rfl rfl) ?_
    intro a ht
    refine wpl rfl rfl ht (ev_len_rows ht rfl rfl und_35 (hm.rowsOf 0 0 rfl rfl)) ?_
    intro a ht
    refine wpl rfl rfl ht (ev_cmp ht rfl rfl rfl rfl) ?_
    intro a ht
    refine wpList_nil ?_
    refine then_normal ?_
    by_cases h11 : xs0_1 < (t5.length : Int)
    · replace H := ite_yes h11 H
      refine wpc_yes ht rfl (decide_eq_true h11) ?_
      refine wp_skip ?_
      refine then_normal ?_
      refine wp_seq ?_
      refine wp_block ?_
      refine wp_seq ?_
      refine wph_begin (fun w => Ms X (fps []) w0 [.vec A6 c7 43 1 m8 vs9, .blk b1 27 (Col.cells x)] [AllInts vs9 t5] w) mixed ?_
      replace hm := hm.drew
      have hS : Ms X (fps []) w0 [.vec A6 c7 43 1 m8 vs9, .blk b1 27 (Col.cells x)] [AllInts vs9 t5] w.drew := (hm.pick [0, 1] rfl (by decide)).pickφ [0] rfl
      generalize w.drew = w at hm hS ⊢
      refine wph_take (i := 0) rfl (by kernel_rfl) (by kernel_rfl) (by kernel_rfl) (fun _ _ _ h => h) rfl ht hS (wanted_plain rfl) (fun w hm => ev_load_agg ht rfl rfl (ag_27.trans (by first | rw [Col.length_cells] | rfl)) (hm.blk_all 1 rfl)) ?_
      intro a ht
      refine wph_take (i := 1) rfl (by kernel_rfl) (by kernel_rfl) (by kernel_rfl) (fun _ _ _ h => h) rfl ht hS (wanted_plain rfl) (fun w hm => ev_move ht rfl rfl) ?_
      intro a ht
      refine wph_take (i := 2) rfl (by kernel_rfl) (by kernel_rfl) (by kernel_rfl) (fun _ _ _ h => h) rfl ht hS (wanted_plain rfl) (fun w hm => ev_move ht rfl rfl) ?_
      intro a ht
      obtain ⟨l3512, el3512, H⟩ := bind_get H
      refine wph_take (i := 3) rfl (by kernel_rfl) (by kernel_rfl) (by kernel_rfl) (fun _ _ _ h => h) rfl ht hS (wanted_plain rfl) (fun w hm => ev_index_rows ht rfl rfl rfl so_35 (hm.rowsOf 0 0 rfl rfl) el3512) ?_
      intro a ht
      obtain ⟨A4512, c4513, m4514, hv4515, hI⟩ := rowsAt_get (hm.rowsOf 0 0 rfl rfl) el3512
      refine wph_take (i := 4) rfl (by kernel_rfl) (by kernel_rfl) (by kernel_rfl) (fun _ _ _ h => h) rfl ht hS (wanted_plain rfl) (fun w hm => ev_load ht rfl rfl sc_43 (RowsAt.cell (hm.rowsOf 0 0 rfl rfl) hv4515)) ?_
      intro a ht
      replace hm : Ms _ _ _ _ (IntsAt A4512 c4513 m4514 l3512 :: _) w := hm.addφ ((hm.ro 0 rfl).mono fun w h => allInts_at h hv4515 el3512)
      clear hI
      refine wph_take (i := 6) rfl (by kernel_rfl) (by kernel_rfl) (by kernel_rfl) (fun _ _ _ h => h) rfl ht hS (wanted_plain rfl) (fun w hm => ev_load_agg ht rfl rfl (ag_27.trans (by first | rw [Col.length_cells] | rfl)) (hm.blk_all 1 rfl)) ?_
      intro a ht
      refine wph_one (i := 5) (by kernel_rfl) (wph_step rfl ?_)
      obtain ⟨t5512, et5512, H⟩ := bind_get H
      have hcall := spec_l01Turned.calls q10 _ _ A4512 c4513 m4514 x l3512 _ ((fun (hq : Ms _ _ _ ([] ++ [.vec A6 c7 43 1 m8 vs9, .blk b1 27 (Col.cells x)]) _ _) => hq.lend (φp := [IntsAt A4512 c4513 m4514 l3512]) (allRO_cons (hq.lendFact 0 rfl) (allRO_nil))) (hm.pick (own' := [] ++ [.vec A6 c7 43 1 m8 vs9, .blk b1 27 (Col.cells x)]) [0, 1] rfl (by decide))) et5512
      refine wpl_call _ rfl rfl ht rfl rfl rfl rfl can_34 hcall ?_
      clear hcall
      rintro _ w ⟨rfl, hpost⟩ a ht
      replace hm := (hm.pick (own' := [] ++ [.vec A6 c7 43 1 m8 vs9, .blk b1 27 (Col.cells x)]) [0, 1] rfl (by decide)).backL hpost
      clear hpost
      have hS : Ms X (fps []) w0 [.vec A6 c7 43 1 m8 vs9, .blk b1 27 (Col.cells x)] [AllInts vs9 t5] w := (hm.pick [0, 1] rfl (by decide)).pickφ [1] rfl
      refine wpList_nil (qn ⟨hS, ?_⟩)
      refine wph_one (i := 7) (by kernel_rfl) (wph_step rfl ?_)
      obtain ⟨t7512, et7512, H⟩ := bind_get H
      have hcall := spec_l06Between.calls q10 _ _ t5512 x 1 _ ((hm.pick (own' := [] ++ [.vec A6 c7 43 1 m8 vs9, .blk b1 27 (Col.cells x)]) [0, 1] rfl (by decide)).give (passed := []) (rest := [.vec A6 c7 43 1 m8 vs9, .blk b1 27 (Col.cells x)]) (φp := []) [] rfl) et7512
      refine wpl_call _ rfl rfl ht rfl rfl rfl rfl can_21 hcall ?_
      clear hcall
      rintro _ w ⟨b7513, A7514, c7515, m7516, A7517, c7518, m7519, A7520, c7521, m7522, rfl, hpost⟩ a ht
      replace hm := (hm.pick (own' := [] ++ [.vec A6 c7 43 1 m8 vs9, .blk b1 27 (Col.cells x)]) [0, 1] rfl (by decide)).back hpost
      clear hpost
      have hS : Ms X (fps []) w0 [.vec A6 c7 43 1 m8 vs9, .blk b1 27 (Col.cells x)] [AllInts vs9 t5] w := (hm.pick [1, 2] rfl (by decide)).pickφ [4] rfl
      refine wpList_nil (qn ⟨hS, ?_⟩)
      refine wph_take (i := 8) rfl (by kernel_rfl) (by kernel_rfl) (by kernel_rfl) (fun _ _ _ h => h) rfl ht hS (wanted_plain rfl) (fun w hm => ev_nilCheck ht rfl rfl) ?_
      intro a ht
      refine wph_take (i := 9) rfl (by kernel_rfl) (by kernel_rfl) (by kernel_rfl) (fun _ _ _ h => h) rfl ht hS (wanted_plain rfl) (fun w hm => ev_fieldAddr ht rfl rfl fo_45_5) ?_
      intro a ht
      refine wph_one (i := 10) (by kernel_rfl) (wph_step rfl ?_)
      refine wpl rfl rfl ht (ev_load ht rfl rfl sc_2 (hm.blk_cell 0 rfl ((seg_col _ _ 141).trans ((seg_col _ _ 3).trans rfl)))) ?_
      intro a ht
      have hS : Ms X (fps []) w0 [.vec A6 c7 43 1 m8 vs9, .blk b1 27 (Col.cells x)] [AllInts vs9 t5] w := (hm.pick [1, 2] rfl (by decide)).pickφ [4] rfl
      refine wpList_nil (qn ⟨hS, ?_⟩)
      refine wph_take (i := 11) rfl (by kernel_rfl) (by kernel_rfl) (by kernel_rfl) (fun _ _ _ h => h) rfl ht hS (wanted_plain rfl) (fun w hm => ev_cmp ht rfl rfl rfl rfl) ?_
      intro a ht
      refine wph_done (by kernel_rfl) ?_
      refine then_normal ?_
      by_cases h13012 : t7512.2.2.2.2.2.1 > 0
      · replace H := ite_yes h13012 H
        refine wpc_yes ht rfl (decide_eq_true h13012) ?_
        refine wp_seq ?_
        refine wpr ?_
        refine wpl rfl rfl ht (ev_assign ht rfl rfl) ?_
        intro a ht
        refine wpl rfl rfl ht (ev_assign ht rfl rfl) ?_
        intro a ht
        refine wpList_nil ?_
        refine then_normal ?_
        refine wp_ret ?_
        refine blk_ret ?_
        refine then_ret ?_
        refine then_ret ?_
        refine blk_ret ?_
        refine then_ret ?_
        have hres := ht.res (P := Try.prog) (w := w) (rs := [.tmp 2, .tmp 3]) (vs := [.bool true, .int .i64 0]) (.tmp rfl (.tmp rfl .nil))
        obtain rfl := Option.some.inj H
        exact leave ht rfl hres ⟨rfl, ((hm.pick [] rfl (by decide)).pickφ [] rfl).post fun _ h => h⟩
      · replace H := ite_no h13012 H
        refine wpc_no ht rfl (decide_eq_false h13012) ?_
        refine wp_skip ?_
        refine blk_normal ?_
        refine then_normal ?_
        refine wpr ?_
        refine wpl rfl rfl ht (ev_move ht rfl rfl) ?_
        intro a ht
        refine wpl rfl rfl ht (ev_arith ht rfl rfl rfl rfl) ?_
        intro a ht
        refine wpl rfl rfl ht (ev_assign ht rfl rfl) ?_
        intro a ht
        refine wpList_nil ?_
        exact then_normal ⟨q10, by omega, (w64 (xs0_1 + 1)), H, by omega, ht.sub ⟨rfl, rfl, rfl, rfl, rfl, trivial⟩, (hm.pick [1, 2] rfl (by decide)).pickφ [4] rfl⟩
    · replace H := ite_no h11 H
      refine wpc_no ht rfl (decide_eq_false h11) ?_
      refine wp_exit ?_
      refine then_exit ?_
      refine then_exit ?_
      refine blk_hit ?_
      refine then_normal ?_
      refine wp_seq ?_
      refine wpr ?_
      refine wpl rfl rfl ht (ev_assign ht rfl rfl) ?_
      intro a ht
      refine wpl rfl rfl ht (ev_assign ht rfl rfl) ?_
      intro a ht
      refine wpList_nil ?_
      refine then_normal ?_
      refine wp_ret ?_
      have hres := ht.res (P := Try.prog) (w := w) (rs := [.tmp 2, .tmp 3]) (vs := [.bool false, .int .i64 0]) (.tmp rfl (.tmp rfl .nil))
      obtain rfl := Option.some.inj H
      exact leave ht rfl hres ⟨rfl, ((hm.pick [] rfl (by decide)).pickφ [] rfl).post fun _ h => h⟩
  · replace H := ite_no h3 H
    refine wpc_yes ht rfl (not_f (Bool.eq_false_iff.mpr h3)) ?_
    refine wp_seq ?_
    refine wpr ?_
    refine wpl rfl rfl ht (ev_assign ht rfl rfl) ?_
    intro a ht
    refine wpl rfl rfl ht (ev_assign ht rfl rfl) ?_
    intro a ht
    refine wpList_nil ?_
    refine then_normal ?_
    refine wp_ret ?_
    refine then_ret ?_
    have hres := ht.res (P := Try.prog) (w := w) (rs := [.tmp 2, .tmp 3]) (vs := [.bool false, .int .i64 1]) (.tmp rfl (.tmp rfl .nil))
    obtain rfl := Option.some.inj H
    exact leave ht rfl hres ⟨rfl, ((hm.pick [] rfl (by decide)).pickφ [] rfl).post fun _ h => h⟩

/-! ### impl_in: function 65 (loop.example/g01362/impl.in) -/
def impl_in.f (n_ : Int) (low : Int) (high : Int) : Option (Bool) := if n_ ≥ low then (some (decide (n_ ≤ high))) else (some false)
set_option maxRecDepth 100000 in
set_option maxHeartbeats 20000000 in
theorem impl_in.calls (X : List Nat) (w0 : World)  (n_ : Int) (low : Int) (high : Int) (r : Bool)
    (hp : Pre X w0 [] []) (H : impl_in.f n_ low high = some r) :
    Calls Try.prog 65 [.int .i64 n_, .int .i64 low, .int .i64 high].toArray w0 (Ret fun v w => v = .bool r ∧ Post X (fps []) w0 [] [] w) := by
  unfold impl_in.f at H
  refine enterM (n := 15) hp Try.func65 rfl rfl (Nat.le_of_ble_eq_true rfl) fun a w ht hm => ?_
  refine wp_seq ?_
  refine wpr ?_
  refine wpl rfl rfl ht (ev_assign ht rfl rfl) ?_
  intro a ht
  refine wpList_nil ?_
  refine then_normal ?_
  refine wp_seq ?_
  refine wpr ?_
  refine wpl rfl rfl ht (ev_move ht rfl rfl) ?_
  intro a ht
  refine wpl rfl rfl ht (ev_move ht rfl rfl) ?_
  intro a ht
  refine wpl rfl rfl ht (ev_cmp ht rfl rfl rfl rfl) ?_
  intro a ht
  refine wpl rfl rfl ht (ev_move ht rfl rfl) ?_
  intro a ht
  by_cases h1 : n_ ≥ low
  · replace H := ite_yes h1 H
    refine wpl_yes rfl ht rfl ((decide_eq_true h1)) ?_
    refine wpl rfl rfl ht (ev_move ht rfl rfl) ?_
    intro a ht
    refine wpl_yes rfl ht rfl ((decide_eq_true h1)) ?_
    refine wpl rfl rfl ht (ev_move ht rfl rfl) ?_
    intro a ht
    refine wpl_yes rfl ht rfl ((decide_eq_true h1)) ?_
    refine wpl rfl rfl ht (ev_cmp ht rfl rfl rfl rfl) ?_
    intro a ht
    refine wpl rfl rfl ht (ev_pick_yes ht rfl rfl (decide_eq_true h1) rfl) ?_
    intro a ht
    refine wpl rfl rfl ht (ev_assign ht rfl rfl) ?_
    intro a ht
    refine wpList_nil ?_
    refine then_normal ?_
    refine wp_ret ?_
    have hres := ht.res (P := Try.prog) (w := w) (rs := [.tmp 6]) (vs := [.bool (decide (n_ ≤ high))]) (.tmp rfl .nil)
    obtain rfl := Option.some.inj H
    exact leave ht rfl hres ⟨rfl, ((hm.pick [] rfl (by decide)).pickφ [] rfl).post fun _ h => h⟩
  · replace H := ite_no h1 H
    refine wpl_no rfl rfl ht rfl (by rw [(decide_eq_false h1)]; decide) ?_
    intro a ht
    refine wpl_no rfl rfl ht rfl (by rw [(decide_eq_false h1)]; decide) ?_
    intro a ht
    refine wpl_no rfl rfl ht rfl (by rw [(decide_eq_false h1)]; decide) ?_
    intro a ht
    refine wpl rfl rfl ht (ev_pick_no ht rfl rfl (decide_eq_false h1) rfl) ?_
    intro a ht
    refine wpl rfl rfl ht (ev_assign ht rfl rfl) ?_
    intro a ht
    refine wpList_nil ?_
    refine then_normal ?_
    refine wp_ret ?_
    have hres := ht.res (P := Try.prog) (w := w) (rs := [.tmp 6]) (vs := [.bool false]) (.tmp rfl .nil)
    obtain rfl := Option.some.inj H
    exact leave ht rfl hres ⟨rfl, ((hm.pick [] rfl (by decide)).pickφ [] rfl).post fun _ h => h⟩

/-! ### impl_Colouring_edges: function 66 ((*loop.example/g01362/impl.Colouring).edges) -/
def impl_Colouring_edges.f (x : Col) : Option (Int) := some (w64 (Int.tdiv (w64 (x.p * (w64 (x.p - 1)))) 2))
set_option maxRecDepth 100000 in
set_option maxHeartbeats 20000000 in
theorem impl_Colouring_edges.calls (X : List Nat) (w0 : World) (b : Nat) (x : Col) (r : Int)
    (hp : Pre X w0 [.blk b 27 (Col.cells x)] []) (H : impl_Colouring_edges.f x = some r) :
    Calls Try.prog 66 [.pointer (some ⟨b, 0, none⟩)].toArray w0 (Ret fun v w => v = .int .i64 r ∧ Post X (fps [.blk b 27 (Col.cells x)]) w0 [.blk b 27 (Col.cells x)] [] w) := by
  unfold impl_Colouring_edges.f at H
  refine enterM (n := 14) hp Try.func66 rfl rfl (Nat.le_of_ble_eq_true rfl) fun a w ht hm => ?_
  refine wp_seq ?_
  refine wpr ?_
  refine wpl rfl rfl ht (ev_assign ht rfl rfl) ?_
  intro a ht
  refine wpList_nil ?_
  refine then_normal ?_
  refine wp_seq ?_
  refine wph_begin (fun w => Ms X (fps [.blk b 27 (Col.cells x)]) w0 [.blk b 27 (Col.cells x)] [] w) mixed ?_
  replace hm := hm.drew
  have hS : Ms X (fps [.blk b 27 (Col.cells x)]) w0 [.blk b 27 (Col.cells x)] [] w.drew := (hm.pick [0] rfl (by decide)).pickφ [] rfl
  generalize w.drew = w at hm hS ⊢
  refine wph_take (i := 0) rfl (by kernel_rfl) (by kernel_rfl) (by kernel_rfl) (fun _ _ _ h => h) rfl ht hS (wanted_plain rfl) (fun w hm => ev_move ht rfl rfl) ?_
  intro a ht
  refine wph_take (i := 1) rfl (by kernel_rfl) (by kernel_rfl) (by kernel_rfl) (fun _ _ _ h => h) rfl ht hS (wanted_plain rfl) (fun w hm => ev_nilCheck ht rfl rfl) ?_
  intro a ht
  refine wph_take (i := 2) rfl (by kernel_rfl) (by kernel_rfl) (by kernel_rfl) (fun _ _ _ h => h) rfl ht hS (wanted_plain rfl) (fun w hm => ev_fieldAddr ht rfl rfl fo_27_0) ?_
  intro a ht
  refine wph_take (i := 3) rfl (by kernel_rfl) (by kernel_rfl) (by kernel_rfl) (fun _ _ _ h => h) rfl ht hS (wanted_plain rfl) (fun w hm => ev_load ht rfl rfl sc_2 (hm.blk_cell 0 rfl rfl)) ?_
  intro a ht
  refine wph_take (i := 4) rfl (by kernel_rfl) (by kernel_rfl) (by kernel_rfl) (fun _ _ _ h => h) rfl ht hS (wanted_plain rfl) (fun w hm => ev_move ht rfl rfl) ?_
  intro a ht
  refine wph_take (i := 5) rfl (by kernel_rfl) (by kernel_rfl) (by kernel_rfl) (fun _ _ _ h => h) rfl ht hS (wanted_plain rfl) (fun w hm => ev_nilCheck ht rfl rfl) ?_
  intro a ht
  refine wph_take (i := 6) rfl (by kernel_rfl) (by kernel_rfl) (by kernel_rfl) (fun _ _ _ h => h) rfl ht hS (wanted_plain rfl) (fun w hm => ev_fieldAddr ht rfl rfl fo_27_0) ?_
  intro a ht
  refine wph_take (i := 7) rfl (by kernel_rfl) (by kernel_rfl) (by kernel_rfl) (fun _ _ _ h => h) rfl ht hS (wanted_plain rfl) (fun w hm => ev_load ht rfl rfl sc_2 (hm.blk_cell 0 rfl rfl)) ?_
  intro a ht
  refine wph_take (i := 8) rfl (by kernel_rfl) (by kernel_rfl) (by kernel_rfl) (fun _ _ _ h => h) rfl ht hS (wanted_plain rfl) (fun w hm => ev_arith ht rfl rfl rfl rfl) ?_
  intro a ht
  refine wph_take (i := 9) rfl (by kernel_rfl) (by kernel_rfl) (by kernel_rfl) (fun _ _ _ h => h) rfl ht hS (wanted_plain rfl) (fun w hm => ev_arith ht rfl rfl rfl rfl) ?_
  intro a ht
  refine wph_take (i := 10) rfl (by kernel_rfl) (by kernel_rfl) (by kernel_rfl) (fun _ _ _ h => h) rfl ht hS (wanted_plain rfl) (fun w hm => ev_quo ht rfl rfl rfl (by decide)) ?_
  intro a ht
  refine wph_take (i := 11) rfl (by kernel_rfl) (by kernel_rfl) (by kernel_rfl) (fun _ _ _ h => h) rfl ht hS (wanted_plain rfl) (fun w hm => ev_assign ht rfl rfl) ?_
  intro a ht
  refine wph_done (by kernel_rfl) ?_
  refine then_normal ?_
  refine wp_ret ?_
  have hres := ht.res (P := Try.prog) (w := w) (rs := [.tmp 2]) (vs := [.int .i64 (w64 (Int.tdiv (w64 (x.p * (w64 (x.p - 1)))) 2))]) (.tmp rfl .nil)
  obtain rfl := Option.some.inj H
  exact leave ht rfl hres ⟨rfl, ((hm.pick [0] rfl (by decide)).pickφ [] rfl).post fun _ h => h⟩

/-! ### impl_Colouring_isColouring: function 46 ((*loop.example/g01362/impl.Colouring).isColouring) -/
def impl_Colouring_isColouring.l0 : Nat → Col → Int → Option (Bool)
  | 0, _, _ => none
  | q5 + 1, x, xs0_1 => if xs0_1 < 136 then ((getB 136 x.e xs0_1).bind fun t7 => if (w64 t7) ≥ x.k then (some false) else ((impl_Colouring_edges.f x).bind fun t9 => if xs0_1 ≥ t9 then (if t7 ≠ 0 then (some false) else (impl_Colouring_isColouring.l0 q5 x (w64 (xs0_1 + 1)))) else (impl_Colouring_isColouring.l0 q5 x (w64 (xs0_1 + 1))))) else (some true)
def impl_Colouring_isColouring.f (k : Nat) (x : Col) : Option (Bool) := (impl_in.f x.p 1 17).bind fun t1 => if t1 = true then ((impl_in.f x.k 1 4).bind fun t3 => if t3 = true then (impl_Colouring_isColouring.l0 k x 0) else (some false)) else (some false)
set_option maxRecDepth 100000 in
set_option maxHeartbeats 20000000 in
theorem impl_Colouring_isColouring.calls (k : Nat) (X : List Nat) (w0 : World) (b : Nat) (x : Col) (r : Bool)
    (hp : Pre X w0 [.blk b 27 (Col.cells x)] []) (H : impl_Colouring_isColouring.f k x = some r) :
    Calls Try.prog 46 [.pointer (some ⟨b, 0, none⟩)].toArray w0 (Ret fun v w => v = .bool r ∧ Post X (fps [.blk b 27 (Col.cells x)]) w0 [.blk b 27 (Col.cells x)] [] w) := by
  unfold impl_Colouring_isColouring.f at H
  refine enterM (n := 45) hp Try.func46 rfl rfl (Nat.le_of_ble_eq_true rfl) fun a w ht hm => ?_
  refine wp_seq ?_
  refine wpr ?_
  refine wpl rfl rfl ht (ev_assign ht rfl rfl) ?_
  intro a ht
  refine wpList_nil ?_
  refine then_normal ?_
  refine wp_seq ?_
  refine wp_seq ?_
  refine wpr ?_
  refine wpl rfl rfl ht (ev_move ht rfl rfl) ?_
  intro a ht
  refine wpl rfl rfl ht (ev_nilCheck ht rfl rfl) ?_
  intro a ht
  refine wpl rfl rfl ht (ev_fieldAddr ht rfl rfl fo_27_0) ?_
  intro a ht
  refine wpl rfl rfl ht (ev_load ht rfl rfl sc_2 (hm.blk_cell 0 rfl rfl)) ?_
  intro a ht
  obtain ⟨t1, et1, H⟩ := bind_get H
  have hcall := impl_in.calls _ _ x.p 1 17 _ ((fun (hq : Ms _ _ _ ([] ++ [.blk b 27 (Col.cells x)]) _ _) => hq.lend (φp := []) (allRO_nil)) (hm.pick (own' := [] ++ [.blk b 27 (Col.cells x)]) [0] rfl (by decide))) et1
  refine wpl_call _ rfl rfl ht rfl rfl rfl rfl can_65 hcall ?_
  clear hcall
  rintro _ w ⟨rfl, hpost⟩ a ht
  replace hm := (hm.pick (own' := [] ++ [.blk b 27 (Col.cells x)]) [0] rfl (by decide)).backL hpost
  clear hpost
  refine wpl rfl rfl ht (ev_not ht rfl rfl) ?_
  intro a ht
  refine wpl rfl rfl ht (ev_move ht rfl rfl) ?_
  intro a ht
  by_cases h2 : t1 = true
  · replace H := ite_yes h2 H
    refine wpl_yes rfl ht rfl ((not_t h2)) ?_
    refine wpl rfl rfl ht (ev_move ht rfl rfl) ?_
    intro a ht
    refine wpl_yes rfl ht rfl ((not_t h2)) ?_
    refine wpl rfl rfl ht (ev_nilCheck ht rfl rfl) ?_
    intro a ht
    refine wpl_yes rfl ht rfl ((not_t h2)) ?_
    refine wpl rfl rfl ht (ev_fieldAddr ht rfl rfl fo_27_1) ?_
    intro a ht
    refine wpl_yes rfl ht rfl ((not_t h2)) ?_
    refine wpl rfl rfl ht (ev_load ht rfl rfl sc_2 (hm.blk_cell 0 rfl rfl)) ?_
    intro a ht
    refine wpl_yes rfl ht rfl ((not_t h2)) ?_
    obtain ⟨t3, et3, H⟩ := bind_get H
    have hcall := impl_in.calls _ _ x.k 1 4 _ ((fun (hq : Ms _ _ _ ([] ++ [.blk b 27 (Col.cells x)]) _ _) => hq.lend (φp := []) (allRO_nil)) (hm.pick (own' := [] ++ [.blk b 27 (Col.cells x)]) [0] rfl (by decide))) et3
    refine wpl_call _ rfl rfl ht rfl rfl rfl rfl can_65 hcall ?_
    clear hcall
    rintro _ w ⟨rfl, hpost⟩ a ht
    replace hm := (hm.pick (own' := [] ++ [.blk b 27 (Col.cells x)]) [0] rfl (by decide)).backL hpost
    clear hpost
    refine wpl_yes rfl ht rfl ((not_t h2)) ?_
    refine wpl rfl rfl ht (ev_not ht rfl rfl) ?_
    intro a ht
    refine wpl rfl rfl ht (ev_pick_no ht rfl rfl (not_t h2) rfl) ?_
    intro a ht
    refine wpList_nil ?_
    refine then_normal ?_
    by_cases h4 : t3 = true
    · replace H := ite_yes h4 H
      refine wpc_no ht rfl (not_t h4) ?_
      refine wp_skip ?_
      refine then_normal ?_
      refine wp_seq ?_
      refine wp_seq ?_
      refine wpr ?_
      refine wpl rfl rfl ht (ev_move ht rfl rfl) ?_
      intro a ht
      refine wpl rfl rfl ht (ev_nilCheck ht rfl rfl) ?_
      intro a ht
      refine wpl rfl rfl ht (ev_fieldAddr ht rfl rfl fo_27_2) ?_
      intro a ht
      refine wpl rfl rfl ht (ev_load_agg ht rfl rfl (ag_22.trans (by first | rw [length_bytesC] | rfl)) (hm.col_edges 0 rfl)) ?_
      intro a ht
      refine wpl rfl rfl ht (ev_move ht rfl rfl) ?_
      intro a ht
      refine wpList_nil ?_
      refine then_normal ?_
      refine wp_block ?_
      refine wpLoop (fun q a w => ∃ (xs0_1 : Int), impl_Colouring_isColouring.l0 q x xs0_1 = some r ∧ q ≤ k ∧ Tm 45 [(0, .pointer (some ⟨b, 0, none⟩)), (2, .bool false), (22, .agg (bytesC 136 x.e).toArray), (23, .int .i64 xs0_1)] a ∧ Ms X (fps [.blk b 27 (Col.cells x)]) w0 [.blk b 27 (Col.cells x)] [] w) (k0 := k) ⟨0, H, Nat.le_refl _, ht.sub ⟨rfl, rfl, rfl, rfl, trivial⟩, (hm.pick [0] rfl (by decide)).pickφ [] rfl⟩ ?_
      clear H ht hm
      intro q5 a w hJ
      obtain ⟨xs0_1, H, hqq5, ht, hm⟩ := hJ
      cases q5 with
      | zero => cases H
      | succ q5 =>
      rw [impl_Colouring_isColouring.l0] at H
      refine wp_seq ?_
      refine wpr ?_
      refine wpl rfl rfl ht (ev_cmp ht rfl rfl rfl rfl) ?_
      intro a ht
      refine wpList_nil ?_
      refine then_normal ?_
      refine wp_seq ?_
      by_cases h6 : xs0_1 < 136
      · replace H := ite_yes h6 H
        refine wpc_yes ht rfl (decide_eq_true h6) ?_
        refine wp_skip ?_
        refine then_normal ?_
        refine wp_seq ?_
        refine wp_block ?_
        refine wp_seq ?_
        refine wpr ?_
        refine wpl rfl rfl ht (ev_move ht rfl rfl) ?_
        intro a ht
        obtain ⟨t7, et7, H⟩ := bind_get H
        refine wpl rfl rfl ht (ev_index_bytes ht rfl rfl rfl und_22 sc_5 sz1_5 et7) ?_
        intro a ht
        refine wpl rfl rfl ht (ev_assign ht rfl rfl) ?_
        intro a ht
        refine wpl rfl rfl ht (ev_assign ht rfl rfl) ?_
        intro a ht
        refine wpList_nil ?_
        refine then_normal ?_
        refine wp_seq ?_
        refine wpr ?_
        refine wpl rfl rfl ht (ev_move ht rfl rfl) ?_
        intro a ht
        refine wpl rfl rfl ht (ev_convert ht rfl rfl und_5 und_2) ?_
        intro a ht
        refine wpl rfl rfl ht (ev_move ht rfl rfl) ?_
        intro a ht
        refine wpl rfl rfl ht (ev_nilCheck ht rfl rfl) ?_
        intro a ht
        refine wpl rfl rfl ht (ev_fieldAddr ht rfl rfl fo_27_1) ?_
        intro a ht
        refine wpl rfl rfl ht (ev_load ht rfl rfl sc_2 (hm.blk_cell 0 rfl rfl)) ?_
        intro a ht
        refine wpl rfl rfl ht (ev_cmp ht rfl rfl rfl rfl) ?_
        intro a ht
        refine wpl rfl rfl ht (ev_move ht rfl rfl) ?_
        intro a ht
        by_cases h8 : (w64 t7) ≥ x.k
        · replace H := ite_yes h8 H
          refine wpl_no rfl rfl ht rfl (by rw [(decide_eq_true h8)]; decide) ?_
          intro a ht
          refine wpl_no rfl rfl ht rfl (by rw [(decide_eq_true h8)]; decide) ?_
          intro a ht
          refine wpl_no rfl rfl ht rfl (by rw [(decide_eq_true h8)]; decide) ?_
          intro a ht
          refine wpl_no rfl rfl ht rfl (by rw [(decide_eq_true h8)]; decide) ?_
          intro a ht
          refine wpl_no rfl rfl ht rfl (by rw [(decide_eq_true h8)]; decide) ?_
          intro a ht
          refine wpl_none rfl rfl ht rfl ?_
          intro a ht
          refine wpl_none rfl rfl ht rfl ?_
          intro a ht
          refine wpl_no rfl rfl ht rfl (by rw [(decide_eq_true h8)]; decide) ?_
          intro a ht
          refine wpl rfl rfl ht (ev_pick_yes ht rfl rfl (decide_eq_true h8) rfl) ?_
          intro a ht
          refine wpList_nil ?_
          refine then_normal ?_
          refine wpc_yes ht rfl rfl ?_
          refine wp_seq ?_
          refine wpr ?_
          refine wpl rfl rfl ht (ev_assign ht rfl rfl) ?_
          intro a ht
          refine wpList_nil ?_
          refine then_normal ?_
          refine wp_ret ?_
          refine blk_ret ?_
          refine then_ret ?_
          refine then_ret ?_
          refine blk_ret ?_
          refine then_ret ?_
          have hres := ht.res (P := Try.prog) (w := w) (rs := [.tmp 2]) (vs := [.bool false]) (.tmp rfl .nil)
          obtain rfl := Option.some.inj H
          exact leave ht rfl hres ⟨rfl, ((hm.pick [0] rfl (by decide)).pickφ [] rfl).post fun _ h => h⟩
        · replace H := ite_no h8 H
          refine wpl_yes rfl ht rfl ((decide_eq_false h8)) ?_
          refine wpl rfl rfl ht (ev_move ht rfl rfl) ?_
          intro a ht
          refine wpl_yes rfl ht rfl ((decide_eq_false h8)) ?_
          refine wpl rfl rfl ht (ev_move ht rfl rfl) ?_
          intro a ht
          refine wpl_yes rfl ht rfl ((decide_eq_false h8)) ?_
          obtain ⟨t9, et9, H⟩ := bind_get H
          have hcall := impl_Colouring_edges.calls _ _ b x _ ((fun (hq : Ms _ _ _ ([.blk b 27 (Col.cells x)] ++ []) _ _) => hq.lend (φp := []) (allRO_nil)) (hm.pick (own' := [.blk b 27 (Col.cells x)] ++ []) [0] rfl (by decide))) et9
          refine wpl_call _ rfl rfl ht rfl rfl rfl rfl can_66 hcall ?_
          clear hcall
          rintro _ w ⟨rfl, hpost⟩ a ht
          replace hm := (hm.pick (own' := [.blk b 27 (Col.cells x)] ++ []) [0] rfl (by decide)).backL hpost
          clear hpost
          refine wpl_yes rfl ht rfl ((decide_eq_false h8)) ?_
          refine wpl rfl rfl ht (ev_cmp ht rfl rfl rfl rfl) ?_
          intro a ht
          refine wpl_yes rfl ht rfl ((decide_eq_false h8)) ?_
          refine wpl rfl rfl ht (ev_move ht rfl rfl) ?_
          intro a ht
          by_cases h10 : xs0_1 ≥ t9
          · replace H := ite_yes h10 H
            refine wpl_yes rfl ht rfl ((decide_eq_true h10)) ?_
            refine wpl rfl rfl ht (ev_move ht rfl rfl) ?_
            intro a ht
            refine wpl_yes rfl ht rfl ((decide_eq_true h10)) ?_
            refine wpl rfl rfl ht (ev_cmp ht rfl rfl rfl rfl) ?_
            intro a ht
            refine wpl_yes rfl ht rfl ((decide_eq_false h8)) ?_
            refine wpl rfl rfl ht (ev_pick_yes ht rfl rfl (decide_eq_true h10) rfl) ?_
            intro a ht
            refine wpl rfl rfl ht (ev_pick_no ht rfl rfl (decide_eq_false h8) rfl) ?_
            intro a ht
            refine wpList_nil ?_
            refine then_normal ?_
            by_cases h11 : t7 ≠ 0
            · replace H := ite_yes h11 H
              refine wpc_yes ht rfl (decide_eq_true h11) ?_
              refine wp_seq ?_
              refine wpr ?_
              refine wpl rfl rfl ht (ev_assign ht rfl rfl) ?_
              intro a ht
              refine wpList_nil ?_
              refine then_normal ?_
              refine wp_ret ?_
              refine blk_ret ?_
              refine then_ret ?_
              refine then_ret ?_
              refine blk_ret ?_
              refine then_ret ?_
              have hres := ht.res (P := Try.prog) (w := w) (rs := [.tmp 2]) (vs := [.bool false]) (.tmp rfl .nil)
              obtain rfl := Option.some.inj H
              exact leave ht rfl hres ⟨rfl, ((hm.pick [0] rfl (by decide)).pickφ [] rfl).post fun _ h => h⟩
            · replace H := ite_no h11 H
              refine wpc_no ht rfl (decide_eq_false h11) ?_
              refine wp_skip ?_
              refine blk_normal ?_
              refine then_normal ?_
              refine wpr ?_
              refine wpl rfl rfl ht (ev_arith ht rfl rfl rfl rfl) ?_
              intro a ht
              refine wpl rfl rfl ht (ev_move ht rfl rfl) ?_
              intro a ht
              refine wpList_nil ?_
              exact then_normal ⟨q5, by omega, (w64 (xs0_1 + 1)), H, by omega, ht.sub ⟨rfl, rfl, rfl, rfl, trivial⟩, (hm.pick [0] rfl (by decide)).pickφ [] rfl⟩
          · replace H := ite_no h10 H
            refine wpl_no rfl rfl ht rfl (by rw [(decide_eq_false h10)]; decide) ?_
            intro a ht
            refine wpl_no rfl rfl ht rfl (by rw [(decide_eq_false h10)]; decide) ?_
            intro a ht
            refine wpl_yes rfl ht rfl ((decide_eq_false h8)) ?_
            refine wpl rfl rfl ht (ev_pick_no ht rfl rfl (decide_eq_false h10) rfl) ?_
            intro a ht
            refine wpl rfl rfl ht (ev_pick_no ht rfl rfl (decide_eq_false h8) rfl) ?_
            intro a ht
            refine wpList_nil ?_
            refine then_normal ?_
            refine wpc_no ht rfl rfl ?_
            refine wp_skip ?_
            refine blk_normal ?_
            refine then_normal ?_
            refine wpr ?_
            refine wpl rfl rfl ht (ev_arith ht rfl rfl rfl rfl) ?_
            intro a ht
            refine wpl rfl rfl ht (ev_move ht rfl rfl) ?_
            intro a ht
            refine wpList_nil ?_
            exact then_normal ⟨q5, by omega, (w64 (xs0_1 + 1)), H, by omega, ht.sub ⟨rfl, rfl, rfl, rfl, trivial⟩, (hm.pick [0] rfl (by decide)).pickφ [] rfl⟩
      · replace H := ite_no h6 H
        refine wpc_no ht rfl (decide_eq_false h6) ?_
        refine wp_exit ?_
        refine then_exit ?_
        refine then_exit ?_
        refine blk_hit ?_
        refine then_normal ?_
        refine wp_seq ?_
        refine wpr ?_
        refine wpl rfl rfl ht (ev_assign ht rfl rfl) ?_
        intro a ht
        refine wpList_nil ?_
        refine then_normal ?_
        refine wp_ret ?_
        have hres := ht.res (P := Try.prog) (w := w) (rs := [.tmp 2]) (vs := [.bool true]) (.tmp rfl .nil)
        obtain rfl := Option.some.inj H
        exact leave ht rfl hres ⟨rfl, ((hm.pick [0] rfl (by decide)).pickφ [] rfl).post fun _ h => h⟩
    · replace H := ite_no h4 H
      refine wpc_yes ht rfl (not_f (Bool.eq_false_iff.mpr h4)) ?_
      refine wp_seq ?_
      refine wpr ?_
      refine wpl rfl rfl ht (ev_assign ht rfl rfl) ?_
      intro a ht
      refine wpList_nil ?_
      refine then_normal ?_
      refine wp_ret ?_
      refine then_ret ?_
      have hres := ht.res (P := Try.prog) (w := w) (rs := [.tmp 2]) (vs := [.bool false]) (.tmp rfl .nil)
      obtain rfl := Option.some.inj H
      exact leave ht rfl hres ⟨rfl, ((hm.pick [0] rfl (by decide)).pickφ [] rfl).post fun _ h => h⟩
  · replace H := ite_no h2 H
    refine wpl_no rfl rfl ht rfl (by rw [(not_f (Bool.eq_false_iff.mpr h2))]; decide) ?_
    intro a ht
    refine wpl_no rfl rfl ht rfl (by rw [(not_f (Bool.eq_false_iff.mpr h2))]; decide) ?_
    intro a ht
    refine wpl_no rfl rfl ht rfl (by rw [(not_f (Bool.eq_false_iff.mpr h2))]; decide) ?_
    intro a ht
    refine wpl_no rfl rfl ht rfl (by rw [(not_f (Bool.eq_false_iff.mpr h2))]; decide) ?_
    intro a ht
    refine wpl_no rfl rfl ht rfl (by rw [(not_f (Bool.eq_false_iff.mpr h2))]; decide) ?_
    intro a ht
    refine wpl_no rfl rfl ht rfl (by rw [(not_f (Bool.eq_false_iff.mpr h2))]; decide) ?_
    intro a ht
    refine wpl rfl rfl ht (ev_pick_yes ht rfl rfl (not_f (Bool.eq_false_iff.mpr h2)) rfl) ?_
    intro a ht
    refine wpList_nil ?_
    refine then_normal ?_
    refine wpc_yes ht rfl rfl ?_
    refine wp_seq ?_
    refine wpr ?_
    refine wpl rfl rfl ht (ev_assign ht rfl rfl) ?_
    intro a ht
    refine wpList_nil ?_
    refine then_normal ?_
    refine wp_ret ?_
    refine then_ret ?_
    have hres := ht.res (P := Try.prog) (w := w) (rs := [.tmp 2]) (vs := [.bool false]) (.tmp rfl .nil)
    obtain rfl := Option.some.inj H
    exact leave ht rfl hres ⟨rfl, ((hm.pick [0] rfl (by decide)).pickφ [] rfl).post fun _ h => h⟩

/-! ### impl_always: function 24 (loop.example/g01362/impl.always) -/
def impl_always.f  : Option (Bool) := some true
set_option maxRecDepth 100000 in
set_option maxHeartbeats 20000000 in
theorem impl_always.calls (X : List Nat) (w0 : World)   (r : Bool)
    (hp : Pre X w0 [] []) (H : impl_always.f  = some r) :
    Calls Try.prog 24 [].toArray w0 (Ret fun v w => v = .bool r ∧ Post X (fps []) w0 [] [] w) := by
  unfold impl_always.f at H
  refine enterM (n := 1) hp Try.func24 rfl rfl (Nat.le_of_ble_eq_true rfl) fun a w ht hm => ?_
  refine wp_seq ?_
  refine wpr ?_
  refine wpl rfl rfl ht (ev_assign ht rfl rfl) ?_
  intro a ht
  refine wpList_nil ?_
  refine then_normal ?_
  refine wp_seq ?_
  refine wpr ?_
  refine wpl rfl rfl ht (ev_assign ht rfl rfl) ?_
  intro a ht
  refine wpList_nil ?_
  refine then_normal ?_
  refine wp_ret ?_
  have hres := ht.res (P := Try.prog) (w := w) (rs := [.tmp 0]) (vs := [.bool true]) (.tmp rfl .nil)
  obtain rfl := Option.some.inj H
  exact leave ht rfl hres ⟨rfl, ((hm.pick [] rfl (by decide)).pickφ [] rfl).post fun _ h => h⟩

end Go.Proofs.Ytbgniopmmankdaa.G
