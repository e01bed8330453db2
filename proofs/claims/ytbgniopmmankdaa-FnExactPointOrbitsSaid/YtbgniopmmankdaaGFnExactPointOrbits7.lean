/- What each Go function computes, as a Lean function, and the proof that it does: written by a program of this session (wip/gen), part 7. -/
import Derived.Test.YtbgniopmmankdaaGFnExactPointOrbits6
namespace Go.Proofs.Ytbgniopmmankdaa.G
open Go Go.RowKit Go.Proofs.Ytbgniopmmankdaa.K
set_option linter.unusedVariables false
set_option linter.unusedSimpArgs false

/-! ### impl_newTracer: function 47 (loop.example/g01362/impl.newTracer) -/
mutual
def impl_newTracer.l0 : Nat → Col → List Int → (Nat → Bool) → Int → Option (List Int × (Nat → Bool))
  | 0, _, _, _, _ => none
  | q2 + 1, x, ls0_4, gs0_5, xs0_6 => if xs0_6 < x.p then (impl_newTracer.l1 q2 x xs0_6 ls0_4 gs0_5 0) else (some (ls0_4, gs0_5))
def impl_newTracer.l1 : Nat → Col → Int → List Int → (Nat → Bool) → Int → Option (List Int × (Nat → Bool))
  | 0, _, _, _, _, _ => none
  | q4 + 1, x, xs0_6, ls1_4, gs1_5, xs1_6 => if xs1_6 < x.p then ((guardO (0 ≤ xs0_6 ∧ xs0_6 < 17)).bind fun _ => (impl_Colouring_degreesAt.f q4 x xs0_6).bind fun t5506 => (impl_Colouring_degreesAt.f q4 x xs1_6).bind fun t8506 => (slices_Equal_int64_int64.f q4 t5506 t8506).bind fun t9506 => (guardO (0 ≤ xs1_6 ∧ xs1_6 < 17)).bind fun _ => impl_newTracer.l1 q4 x xs0_6 ls1_4 (updG gs1_5 (xs0_6.toNat * 17 + xs1_6.toNat) t9506) (w64 (xs1_6 + 1))) else (impl_newTracer.l0 q4 x ls1_4 gs1_5 (w64 (xs0_6 + 1)))
end
def impl_newTracer.f (k : Nat) (x : Col) (order : List Int) : Option (List Int × (Nat → Bool)) := impl_newTracer.l0 k x order (fun _ => false) 0
set_option maxRecDepth 100000 in
set_option maxHeartbeats 20000000 in
theorem impl_newTracer.calls (k : Nat) (X : List Nat) (w0 : World) (b : Nat) (A : Option Addr) (c : Nat) (m : Nat) (x : Col) (order : List Int) (r : List Int × (Nat → Bool))
    (hp : Pre X w0 [.blk b 27 (Col.cells x)] [IntsAt A c m order]) (H : impl_newTracer.f k x order = some r) :
    Calls Try.prog 47 [.pointer (some ⟨b, 0, none⟩), .pointer (some ⟨b, 0, none⟩), .slice A m c].toArray w0 (Ret fun v w => ∃ (b_0 : Nat) (A_0 : Option Addr) (c_0 : Nat) (n_0 : Nat), v = .pointer (some ⟨b_0, 0, none⟩) ∧ Post X (fps [.blk b 27 (Col.cells x)]) w0 [.blk b_0 86 ([.pointer (some ⟨b, 0, none⟩), .pointer (some ⟨b, 0, none⟩), .slice A_0 n_0 c_0] ++ (gridC 289 r.2)), .blk b 27 (Col.cells x)] [IntsAt A_0 c_0 n_0 r.1] w) := by
  unfold impl_newTracer.f at H
  refine enterM (n := 66) hp Try.func47 rfl rfl (Nat.le_of_ble_eq_true rfl) fun a w ht hm => ?_
  refine wp_seq ?_
  refine wpr ?_
  refine wpl rfl rfl ht (ev_assign ht rfl rfl) ?_
  intro a ht
  refine wpList_nil ?_
  refine then_normal ?_
  refine wp_seq ?_
  refine wp_seq ?_
  refine wph_begin (fun w => Ms X (fps [.blk b 27 (Col.cells x)]) w0 [.blk b 27 (Col.cells x)] [IntsAt A c m order] w) mixed ?_
  replace hm := hm.drew
  have hS : Ms X (fps [.blk b 27 (Col.cells x)]) w0 [.blk b 27 (Col.cells x)] [IntsAt A c m order] w.drew := (hm.pick [0] rfl (by decide)).pickφ [0] rfl
  generalize w.drew = w at hm hS ⊢
  refine wph_take (i := 0) rfl (by kernel_rfl) (by kernel_rfl) (by kernel_rfl) (fun _ _ _ h => h) rfl ht hS (wanted_plain rfl) (fun w hm => ev_move ht rfl rfl) ?_
  intro a ht
  refine wph_take (i := 1) rfl (by kernel_rfl) (by kernel_rfl) (by kernel_rfl) (fun _ _ _ h => h) rfl ht hS (wanted_plain rfl) (fun w hm => ev_nilCheck ht rfl rfl) ?_
  intro a ht
  refine wph_take (i := 2) rfl (by kernel_rfl) (by kernel_rfl) (by kernel_rfl) (fun _ _ _ h => h) rfl ht hS (wanted_plain rfl) (fun w hm => ev_fieldAddr ht rfl rfl fo_27_0) ?_
  intro a ht
  refine wph_take (i := 3) rfl (by kernel_rfl) (by kernel_rfl) (by kernel_rfl) (fun _ _ _ h => h) rfl ht hS (wanted_plain rfl) (fun w hm => ev_load ht rfl rfl sc_2 (hm.blk_cell 0 rfl rfl)) ?_
  intro a ht
  refine wph_take (i := 4) rfl (by kernel_rfl) (by kernel_rfl) (by kernel_rfl) (fun _ _ _ h => h) rfl ht hS (wanted_plain rfl) (fun w hm => ev_move ht rfl rfl) ?_
  intro a ht
  refine wph_take (i := 5) rfl (by kernel_rfl) (by kernel_rfl) (by kernel_rfl) (fun _ _ _ h => h) rfl ht hS (wanted_plain rfl) (fun w hm => ev_nilCheck ht rfl rfl) ?_
  intro a ht
  refine wph_take (i := 6) rfl (by kernel_rfl) (by kernel_rfl) (by kernel_rfl) (fun _ _ _ h => h) rfl ht hS (wanted_plain rfl) (fun w hm => ev_fieldAddr ht rfl rfl fo_27_0) ?_
  intro a ht
  refine wph_take (i := 7) rfl (by kernel_rfl) (by kernel_rfl) (by kernel_rfl) (fun _ _ _ h => h) rfl ht hS (wanted_plain rfl) (fun w hm => ev_load ht rfl rfl sc_2 (hm.blk_cell 0 rfl rfl)) ?_
  intro a ht
  refine wph_take (i := 8) rfl (by kernel_rfl) (by kernel_rfl) (by kernel_rfl) (fun _ _ _ h => h) rfl ht hS (wanted_plain rfl) (fun w hm => ev_cmp ht rfl rfl rfl (cmp_same_ne _)) ?_
  intro a ht
  refine wph_take (i := 9) rfl (by kernel_rfl) (by kernel_rfl) (by kernel_rfl) (fun _ _ _ h => h) rfl ht hS (wanted_plain rfl) (fun w hm => ev_move ht rfl rfl) ?_
  intro a ht
  refine wph_take (i := 10) rfl (by kernel_rfl) (by kernel_rfl) (by kernel_rfl) (fun _ _ _ h => h) rfl ht hS (wanted_yes rfl ht rfl (rfl)) (fun w hm => ev_move ht rfl rfl) ?_
  intro a ht
  refine wph_take (i := 11) rfl (by kernel_rfl) (by kernel_rfl) (by kernel_rfl) (fun _ _ _ h => h) rfl ht hS (wanted_yes rfl ht rfl (rfl)) (fun w hm => ev_nilCheck ht rfl rfl) ?_
  intro a ht
  refine wph_take (i := 12) rfl (by kernel_rfl) (by kernel_rfl) (by kernel_rfl) (fun _ _ _ h => h) rfl ht hS (wanted_yes rfl ht rfl (rfl)) (fun w hm => ev_fieldAddr ht rfl rfl fo_27_1) ?_
  intro a ht
  refine wph_take (i := 13) rfl (by kernel_rfl) (by kernel_rfl) (by kernel_rfl) (fun _ _ _ h => h) rfl ht hS (wanted_yes rfl ht rfl (rfl)) (fun w hm => ev_load ht rfl rfl sc_2 (hm.blk_cell 0 rfl rfl)) ?_
  intro a ht
  refine wph_take (i := 14) rfl (by kernel_rfl) (by kernel_rfl) (by kernel_rfl) (fun _ _ _ h => h) rfl ht hS (wanted_yes rfl ht rfl (rfl)) (fun w hm => ev_move ht rfl rfl) ?_
  intro a ht
  refine wph_take (i := 15) rfl (by kernel_rfl) (by kernel_rfl) (by kernel_rfl) (fun _ _ _ h => h) rfl ht hS (wanted_yes rfl ht rfl (rfl)) (fun w hm => ev_nilCheck ht rfl rfl) ?_
  intro a ht
  refine wph_take (i := 16) rfl (by kernel_rfl) (by kernel_rfl) (by kernel_rfl) (fun _ _ _ h => h) rfl ht hS (wanted_yes rfl ht rfl (rfl)) (fun w hm => ev_fieldAddr ht rfl rfl fo_27_1) ?_
  intro a ht
  refine wph_take (i := 17) rfl (by kernel_rfl) (by kernel_rfl) (by kernel_rfl) (fun _ _ _ h => h) rfl ht hS (wanted_yes rfl ht rfl (rfl)) (fun w hm => ev_load ht rfl rfl sc_2 (hm.blk_cell 0 rfl rfl)) ?_
  intro a ht
  refine wph_take (i := 18) rfl (by kernel_rfl) (by kernel_rfl) (by kernel_rfl) (fun _ _ _ h => h) rfl ht hS (wanted_yes rfl ht rfl (rfl)) (fun w hm => ev_cmp ht rfl rfl rfl (cmp_same_ne _)) ?_
  intro a ht
  refine wph_take (i := 19) rfl (by kernel_rfl) (by kernel_rfl) (by kernel_rfl) (fun _ _ _ h => h) rfl ht hS (wanted_plain rfl) (fun w hm => ev_pick_no ht rfl rfl rfl rfl) ?_
  intro a ht
  refine wph_done (by kernel_rfl) ?_
  refine then_normal ?_
  refine wpc_no ht rfl rfl ?_
  refine wp_skip ?_
  refine then_normal ?_
  refine wp_seq ?_
  refine wpr ?_
  refine wpl rfl rfl ht (ev_move ht rfl rfl) ?_
  intro a ht
  refine wpl rfl rfl ht (ev_move ht rfl rfl) ?_
  intro a ht
  refine wpl rfl rfl ht (ev_move ht rfl rfl) ?_
  intro a ht
  refine wpl rfl rfl ht (ev_build (vs := ([.pointer (some ⟨b, 0, none⟩), .pointer (some ⟨b, 0, none⟩), .slice A m c] ++ (gridC 289 (fun _ => false)))) ht rfl bi_86 rfl (fill_three _ _ _ _ _ _ _ rfl rfl rfl)) ?_
  intro a ht
  refine wpl_box rfl rfl ht hm rfl rfl rfl ?_
  intro b1 a ht w hm
  refine wpl rfl rfl ht (ev_assign ht rfl rfl) ?_
  intro a ht
  refine wpList_nil ?_
  refine then_normal ?_
  refine wp_seq ?_
  refine wp_seq ?_
  refine wpr ?_
  refine wpl rfl rfl ht (ev_move ht rfl rfl) ?_
  intro a ht
  refine wpl rfl rfl ht (ev_nilCheck ht rfl rfl) ?_
  intro a ht
  refine wpl rfl rfl ht (ev_fieldAddr ht rfl rfl fo_27_0) ?_
  intro a ht
  refine wpl rfl rfl ht (ev_load ht rfl rfl sc_2 (hm.blk_cell 1 rfl rfl)) ?_
  intro a ht
  refine wpl rfl rfl ht (ev_move ht rfl rfl) ?_
  intro a ht
  refine wpList_nil ?_
  refine then_normal ?_
  refine wp_block ?_
  refine wpLoop (fun q a w => ∃ (ls0_4 : List Int) (gs0_5 : Nat → Bool) (xs0_6 : Int) (As0_1 : Option Addr) (cs0_2 : Nat) (ms0_3 : Nat), impl_newTracer.l0 q x ls0_4 gs0_5 xs0_6 = some r ∧ q ≤ k ∧ Tm 66 [(0, .pointer (some ⟨b, 0, none⟩)), (1, .pointer (some ⟨b, 0, none⟩)), (6, .pointer none), (7, .pointer (some ⟨b1, 0, none⟩)), (38, .int .i64 x.p), (39, .int .i64 xs0_6)] a ∧ Ms X (fps [.blk b 27 (Col.cells x)]) w0 [.blk b1 86 ([.pointer (some ⟨b, 0, none⟩), .pointer (some ⟨b, 0, none⟩), .slice As0_1 ms0_3 cs0_2] ++ (gridC 289 gs0_5)), .blk b 27 (Col.cells x)] [IntsAt As0_1 cs0_2 ms0_3 ls0_4, IntsAt A c m order] w) (k0 := k) ⟨order, (fun _ => false), 0, A, c, m, H, Nat.le_refl _, ht.sub ⟨rfl, rfl, rfl, rfl, rfl, rfl, trivial⟩, (hm.pick [0, 1] rfl (by decide)).pickφ [0, 0] rfl⟩ ?_
  clear H ht hm
  intro q2 a w hJ
  obtain ⟨ls0_4, gs0_5, xs0_6, As0_1, cs0_2, ms0_3, H, hqq2, ht, hm⟩ := hJ
  cases q2 with
  | zero => cases H
  | succ q2 =>
  rw [impl_newTracer.l0] at H
  refine wp_seq ?_
  refine wpr ?_
  refine wpl rfl rfl ht (ev_cmp ht rfl rfl rfl rfl) ?_
  intro a ht
  refine wpList_nil ?_
  refine then_normal ?_
  refine wp_seq ?_
  by_cases h3 : xs0_6 < x.p
  · replace H := ite_yes h3 H
    refine wpc_yes ht rfl (decide_eq_true h3) ?_
    refine wp_skip ?_
    refine then_normal ?_
    refine wp_seq ?_
    refine wp_block ?_
    refine wp_seq ?_
    refine wpr ?_
    refine wpl rfl rfl ht (ev_move ht rfl rfl) ?_
    intro a ht
    refine wpl rfl rfl ht (ev_assign ht rfl rfl) ?_
    intro a ht
    refine wpList_nil ?_
    refine then_normal ?_
    refine wp_seq ?_
    refine wpr ?_
    refine wpl rfl rfl ht (ev_move ht rfl rfl) ?_
    intro a ht
    refine wpl rfl rfl ht (ev_nilCheck ht rfl rfl) ?_
    intro a ht
    refine wpl rfl rfl ht (ev_fieldAddr ht rfl rfl fo_27_0) ?_
    intro a ht
    refine wpl rfl rfl ht (ev_load ht rfl rfl sc_2 (hm.blk_cell 1 rfl rfl)) ?_
    intro a ht
    refine wpl rfl rfl ht (ev_move ht rfl rfl) ?_
    intro a ht
    refine wpList_nil ?_
    refine then_normal ?_
    refine wp_block ?_
    refine wpLoop (fun q a w => ∃ (ls1_4 : List Int) (gs1_5 : Nat → Bool) (xs1_6 : Int) (As1_1 : Option Addr) (cs1_2 : Nat) (ms1_3 : Nat), impl_newTracer.l1 q x xs0_6 ls1_4 gs1_5 xs1_6 = some r ∧ q ≤ q2 ∧ Tm 66 [(0, .pointer (some ⟨b, 0, none⟩)), (1, .pointer (some ⟨b, 0, none⟩)), (6, .pointer none), (7, .pointer (some ⟨b1, 0, none⟩)), (8, .int .i64 xs0_6), (38, .int .i64 x.p), (39, .int .i64 xs0_6), (40, .bool (decide (xs0_6 < x.p))), (41, .int .i64 xs0_6), (42, .pointer (some ⟨b, 0, none⟩)), (43, .pointer (some ⟨b, 0, none⟩)), (44, .pointer (some ⟨b, 0 + 0, none⟩)), (45, .int .i64 x.p), (46, .int .i64 xs1_6)] a ∧ Ms X (fps [.blk b 27 (Col.cells x)]) w0 [.blk b1 86 ([.pointer (some ⟨b, 0, none⟩), .pointer (some ⟨b, 0, none⟩), .slice As1_1 ms1_3 cs1_2] ++ (gridC 289 gs1_5)), .blk b 27 (Col.cells x)] [IntsAt As1_1 cs1_2 ms1_3 ls1_4, IntsAt A c m order] w) (k0 := q2) ⟨ls0_4, gs0_5, 0, As0_1, cs0_2, ms0_3, H, Nat.le_refl _, ht.sub ⟨rfl, rfl, rfl, rfl, rfl, rfl, rfl, rfl, rfl, rfl, rfl, rfl, rfl, rfl, trivial⟩, (hm.pick [0, 1] rfl (by decide)).pickφ [0, 1] rfl⟩ ?_
    clear H ht hm
    intro q4 a w hJ
    obtain ⟨ls1_4, gs1_5, xs1_6, As1_1, cs1_2, ms1_3, H, hqq4, ht, hm⟩ := hJ
    cases q4 with
    | zero => cases H
    | succ q4 =>
    rw [impl_newTracer.l1] at H
    refine wp_seq ?_
    refine wpr ?_
    refine wpl rfl rfl ht (ev_cmp ht rfl rfl rfl rfl) ?_
    intro a ht
    refine wpList_nil ?_
    refine then_normal ?_
    refine wp_seq ?_
    by_cases h5 : xs1_6 < x.p
    · replace H := ite_yes h5 H
      refine wpc_yes ht rfl (decide_eq_true h5) ?_
      refine wp_skip ?_
      refine then_normal ?_
      refine wp_seq ?_
      refine wp_block ?_
      refine wp_seq ?_
      refine wpr ?_
      refine wpl rfl rfl ht (ev_move ht rfl rfl) ?_
      intro a ht
      refine wpl rfl rfl ht (ev_assign ht rfl rfl) ?_
      intro a ht
      refine wpList_nil ?_
      refine then_normal ?_
      refine wph_begin (fun w => Ms X (fps [.blk b 27 (Col.cells x)]) w0 [.blk b 27 (Col.cells x)] [IntsAt As1_1 cs1_2 ms1_3 ls1_4, IntsAt A c m order] w) mixed ?_
      replace hm := hm.drew
      have hS : Ms X (fps [.blk b 27 (Col.cells x)]) w0 [.blk b 27 (Col.cells x)] [IntsAt As1_1 cs1_2 ms1_3 ls1_4, IntsAt A c m order] w.drew := (hm.pick [1] rfl (by decide)).pickφ [0, 1] rfl
      generalize w.drew = w at hm hS ⊢
      refine wph_take (i := 0) rfl (by kernel_rfl) (by kernel_rfl) (by kernel_rfl) (fun _ _ _ h => h) rfl ht hS (wanted_plain rfl) (fun w hm => ev_move ht rfl rfl) ?_
      intro a ht
      refine wph_take (i := 1) rfl (by kernel_rfl) (by kernel_rfl) (by kernel_rfl) (fun _ _ _ h => h) rfl ht hS (wanted_plain rfl) (fun w hm => ev_move ht rfl rfl) ?_
      intro a ht
      refine wph_take (i := 2) rfl (by kernel_rfl) (by kernel_rfl) (by kernel_rfl) (fun _ _ _ h => h) rfl ht hS (wanted_plain rfl) (fun w hm => ev_move ht rfl rfl) ?_
      intro a ht
      refine wph_take (i := 3) rfl (by kernel_rfl) (by kernel_rfl) (by kernel_rfl) (fun _ _ _ h => h) rfl ht hS (wanted_plain rfl) (fun w hm => ev_move ht rfl rfl) ?_
      intro a ht
      refine wph_take (i := 4) rfl (by kernel_rfl) (by kernel_rfl) (by kernel_rfl) (fun _ _ _ h => h) rfl ht hS (wanted_plain rfl) (fun w hm => ev_move ht rfl rfl) ?_
      intro a ht
      refine wph_take (i := 6) rfl (by kernel_rfl) (by kernel_rfl) (by kernel_rfl) (fun _ _ _ h => h) rfl ht hS (wanted_plain rfl) (fun w hm => ev_move ht rfl rfl) ?_
      intro a ht
      refine wph_take (i := 7) rfl (by kernel_rfl) (by kernel_rfl) (by kernel_rfl) (fun _ _ _ h => h) rfl ht hS (wanted_plain rfl) (fun w hm => ev_move ht rfl rfl) ?_
      intro a ht
      refine wph_take (i := 10) rfl (by kernel_rfl) (by kernel_rfl) (by kernel_rfl) (fun _ _ _ h => h) rfl ht hS (wanted_plain rfl) (fun w hm => ev_nilCheck ht rfl rfl) ?_
      intro a ht
      refine wph_take (i := 11) rfl (by kernel_rfl) (by kernel_rfl) (by kernel_rfl) (fun _ _ _ h => h) rfl ht hS (wanted_plain rfl) (fun w hm => ev_fieldAddr ht rfl rfl fo_86_3) ?_
      intro a ht
      obtain ⟨u12506, eu12506, H⟩ := bind_get H
      refine wph_take (i := 12) rfl (by kernel_rfl) (by kernel_rfl) (by kernel_rfl) (fun _ _ _ h => h) rfl ht hS (wanted_plain rfl) (fun w hm => ev_indexAddr_arr ht rfl rfl rfl ar_84 (guardO_get eu12506).1 (by have := (guardO_get eu12506); omega)) ?_
      intro a ht
      refine wph_one (i := 5) (by kernel_rfl) (wph_step rfl ?_)
      obtain ⟨t5506, et5506, H⟩ := bind_get H
      have hcall := impl_Colouring_degreesAt.calls q4 _ _ b x xs0_6 _ ((fun (hq : Ms _ _ _ ([.blk b 27 (Col.cells x)] ++ [.blk b1 86 ([.pointer (some ⟨b, 0, none⟩), .pointer (some ⟨b, 0, none⟩), .slice As1_1 ms1_3 cs1_2] ++ (gridC 289 gs1_5))]) _ _) => hq.lend (φp := []) (allRO_nil)) (hm.pick (own' := [.blk b 27 (Col.cells x)] ++ [.blk b1 86 ([.pointer (some ⟨b, 0, none⟩), .pointer (some ⟨b, 0, none⟩), .slice As1_1 ms1_3 cs1_2] ++ (gridC 289 gs1_5))]) [1, 0] rfl (by decide))) et5506
      refine wpl_call _ rfl rfl ht rfl rfl rfl rfl can_68 hcall ?_
      clear hcall
      rintro _ w ⟨A5507, c5508, m5509, rfl, hpost⟩ a ht
      replace hm := (hm.pick (own' := [.blk b 27 (Col.cells x)] ++ [.blk b1 86 ([.pointer (some ⟨b, 0, none⟩), .pointer (some ⟨b, 0, none⟩), .slice As1_1 ms1_3 cs1_2] ++ (gridC 289 gs1_5))]) [1, 0] rfl (by decide)).backL hpost
      clear hpost
      have hS : Ms X (fps [.blk b 27 (Col.cells x)]) w0 [.blk b 27 (Col.cells x)] [IntsAt As1_1 cs1_2 ms1_3 ls1_4, IntsAt A c m order] w := (hm.pick [1] rfl (by decide)).pickφ [0, 1] rfl
      refine wpList_nil (qn ⟨hS, ?_⟩)
      refine wph_one (i := 8) (by kernel_rfl) (wph_step rfl ?_)
      obtain ⟨t8506, et8506, H⟩ := bind_get H
      have hcall := impl_Colouring_degreesAt.calls q4 _ _ b x xs1_6 _ ((fun (hq : Ms _ _ _ ([.blk b 27 (Col.cells x)] ++ [.vec A5507 c5508 2 1 m5509 (ints t5506), .blk b1 86 ([.pointer (some ⟨b, 0, none⟩), .pointer (some ⟨b, 0, none⟩), .slice As1_1 ms1_3 cs1_2] ++ (gridC 289 gs1_5))]) _ _) => hq.lend (φp := []) (allRO_nil)) (hm.pick (own' := [.blk b 27 (Col.cells x)] ++ [.vec A5507 c5508 2 1 m5509 (ints t5506), .blk b1 86 ([.pointer (some ⟨b, 0, none⟩), .pointer (some ⟨b, 0, none⟩), .slice As1_1 ms1_3 cs1_2] ++ (gridC 289 gs1_5))]) [1, 0, 2] rfl (by decide))) et8506
      refine wpl_call _ rfl rfl ht rfl rfl rfl rfl can_68 hcall ?_
      clear hcall
      rintro _ w ⟨A8507, c8508, m8509, rfl, hpost⟩ a ht
      replace hm := (hm.pick (own' := [.blk b 27 (Col.cells x)] ++ [.vec A5507 c5508 2 1 m5509 (ints t5506), .blk b1 86 ([.pointer (some ⟨b, 0, none⟩), .pointer (some ⟨b, 0, none⟩), .slice As1_1 ms1_3 cs1_2] ++ (gridC 289 gs1_5))]) [1, 0, 2] rfl (by decide)).backL hpost
      clear hpost
      have hS : Ms X (fps [.blk b 27 (Col.cells x)]) w0 [.blk b 27 (Col.cells x)] [IntsAt As1_1 cs1_2 ms1_3 ls1_4, IntsAt A c m order] w := (hm.pick [1] rfl (by decide)).pickφ [0, 1] rfl
      refine wpList_nil (qn ⟨hS, ?_⟩)
      refine wph_one (i := 9) (by kernel_rfl) (wph_step rfl ?_)
      obtain ⟨t9506, et9506, H⟩ := bind_get H
      have hcall := slices_Equal_int64_int64.calls q4 _ _ A5507 c5508 m5509 A8507 c8508 m8509 t5506 t8506 _ ((fun (hq : Ms _ _ _ ([] ++ [.vec A8507 c8508 2 1 m8509 (ints t8506), .blk b 27 (Col.cells x), .vec A5507 c5508 2 1 m5509 (ints t5506), .blk b1 86 ([.pointer (some ⟨b, 0, none⟩), .pointer (some ⟨b, 0, none⟩), .slice As1_1 ms1_3 cs1_2] ++ (gridC 289 gs1_5))]) _ _) => hq.lend (φp := [IntsAt A5507 c5508 m5509 t5506, IntsAt A8507 c8508 m8509 t8506]) (allRO_cons (hq.lendVec 2 rfl) (allRO_cons (hq.lendVec 0 rfl) (allRO_nil)))) (hm.pick (own' := [] ++ [.vec A8507 c8508 2 1 m8509 (ints t8506), .blk b 27 (Col.cells x), .vec A5507 c5508 2 1 m5509 (ints t5506), .blk b1 86 ([.pointer (some ⟨b, 0, none⟩), .pointer (some ⟨b, 0, none⟩), .slice As1_1 ms1_3 cs1_2] ++ (gridC 289 gs1_5))]) [0, 1, 2, 3] rfl (by decide))) et9506
      refine wpl_call _ rfl rfl ht rfl rfl rfl rfl can_67 hcall ?_
      clear hcall
      rintro _ w ⟨rfl, hpost⟩ a ht
      replace hm := (hm.pick (own' := [] ++ [.vec A8507 c8508 2 1 m8509 (ints t8506), .blk b 27 (Col.cells x), .vec A5507 c5508 2 1 m5509 (ints t5506), .blk b1 86 ([.pointer (some ⟨b, 0, none⟩), .pointer (some ⟨b, 0, none⟩), .slice As1_1 ms1_3 cs1_2] ++ (gridC 289 gs1_5))]) [0, 1, 2, 3] rfl (by decide)).backL hpost
      clear hpost
      have hS : Ms X (fps [.blk b 27 (Col.cells x)]) w0 [.blk b 27 (Col.cells x)] [IntsAt As1_1 cs1_2 ms1_3 ls1_4, IntsAt A c m order] w := (hm.pick [1] rfl (by decide)).pickφ [0, 1] rfl
      refine wpList_nil (qn ⟨hS, ?_⟩)
      obtain ⟨u13506, eu13506, H⟩ := bind_get H
      refine wph_take (i := 13) rfl (by kernel_rfl) (by kernel_rfl) (by kernel_rfl) (fun _ _ _ h => h) rfl ht hS (wanted_plain rfl) (fun w hm => ev_indexAddr_arr ht rfl rfl rfl ar_83 (guardO_get eu13506).1 (by have := (guardO_get eu13506); omega)) ?_
      intro a ht
      refine wph_one (i := 14) (by kernel_rfl) (wph_step rfl ?_)
      refine wpl_store_seg 3 rfl rfl ht hm rfl rfl rfl sz1_4 rfl rfl (grid_get (guardO_get eu12506) (guardO_get eu13506)) (grid_set (guardO_get eu12506) (guardO_get eu13506)) ?_
      intro a ht w hm
      have hS : Ms X (fps [.blk b 27 (Col.cells x)]) w0 [.blk b 27 (Col.cells x)] [IntsAt As1_1 cs1_2 ms1_3 ls1_4, IntsAt A c m order] w := (hm.pick [1] rfl (by decide)).pickφ [0, 1] rfl
      refine wpList_nil (qn ⟨hS, ?_⟩)
      refine wph_done (by kernel_rfl) ?_
      replace hm := hm.pick (own' := [.vec A5507 c5508 2 1 m5509 (ints t5506), .vec A8507 c8508 2 1 m8509 (ints t8506), .blk b 27 (Col.cells x), .blk b1 86 ([.pointer (some ⟨b, 0, none⟩), .pointer (some ⟨b, 0, none⟩), .slice As1_1 ms1_3 cs1_2] ++ (gridC 289 (updG gs1_5 (xs0_6.toNat * 17 + xs1_6.toNat) t9506)))]) [2, 0, 1, 3] rfl (by decide)
      refine blk_normal ?_
      refine then_normal ?_
      refine wpr ?_
      refine wpl rfl rfl ht (ev_arith ht rfl rfl rfl rfl) ?_
      intro a ht
      refine wpl rfl rfl ht (ev_move ht rfl rfl) ?_
      intro a ht
      refine wpList_nil ?_
      exact then_normal ⟨q4, by omega, ls1_4, (updG gs1_5 (xs0_6.toNat * 17 + xs1_6.toNat) t9506), (w64 (xs1_6 + 1)), As1_1, cs1_2, ms1_3, H, by omega, ht.sub ⟨rfl, rfl, rfl, rfl, rfl, rfl, rfl, rfl, rfl, rfl, rfl, rfl, rfl, rfl, trivial⟩, (hm.pick [3, 2] rfl (by decide)).pickφ [0, 1] rfl⟩
    · replace H := ite_no h5 H
      refine wpc_no ht rfl (decide_eq_false h5) ?_
      refine wp_exit ?_
      refine then_exit ?_
      refine then_exit ?_
      refine blk_hit ?_
      refine blk_normal ?_
      refine then_normal ?_
      refine wpr ?_
      refine wpl rfl rfl ht (ev_arith ht rfl rfl rfl rfl) ?_
      intro a ht
      refine wpl rfl rfl ht (ev_move ht rfl rfl) ?_
      intro a ht
      refine wpList_nil ?_
      exact then_normal ⟨q4, by omega, ls1_4, gs1_5, (w64 (xs0_6 + 1)), As1_1, cs1_2, ms1_3, H, by omega, ht.sub ⟨rfl, rfl, rfl, rfl, rfl, rfl, trivial⟩, (hm.pick [0, 1] rfl (by decide)).pickφ [0, 1] rfl⟩
  · replace H := ite_no h3 H
    refine wpc_no ht rfl (decide_eq_false h3) ?_
    refine wp_exit ?_
    refine then_exit ?_
    refine then_exit ?_
    refine blk_hit ?_
    refine then_normal ?_
    refine wp_seq ?_
    refine wpr ?_
    refine wpl rfl rfl ht (ev_move ht rfl rfl) ?_
    intro a ht
    refine wpl rfl rfl ht (ev_assign ht rfl rfl) ?_
    intro a ht
    refine wpList_nil ?_
    refine then_normal ?_
    refine wp_ret ?_
    have hres := ht.res (P := Try.prog) (w := w) (rs := [.tmp 6]) (vs := [.pointer (some ⟨b1, 0, none⟩)]) (.tmp rfl .nil)
    obtain rfl := Option.some.inj H
    exact leave ht rfl hres ⟨b1, As0_1, cs0_2, ms0_3, rfl, ((hm.pick [0, 1] rfl (by decide)).pickφ [0] rfl).post fun _ h => h⟩

/-! ### impl_Colouring_isMoved_2: function 62 ((*loop.example/g01362/impl.Colouring).isMoved$2) -/
def impl_Colouring_isMoved_2.f (x : List Int) : Option (Bool) := some false
set_option maxRecDepth 100000 in
set_option maxHeartbeats 20000000 in
theorem impl_Colouring_isMoved_2.calls (X : List Nat) (w0 : World) (A : Option Addr) (c : Nat) (m : Nat) (x : List Int) (r : Bool)
    (hp : Pre X w0 [] [IntsAt A c m x]) (H : impl_Colouring_isMoved_2.f x = some r) :
    Calls Try.prog 62 [.slice A m c].toArray w0 (Ret fun v w => v = .bool r ∧ Post X (fps []) w0 [] [] w) := by
  unfold impl_Colouring_isMoved_2.f at H
  refine enterM (n := 3) hp Try.func62 rfl rfl (Nat.le_of_ble_eq_true rfl) fun a w ht hm => ?_
  refine wp_seq ?_
  refine wpr ?_
  refine wpl rfl rfl ht (ev_assign ht rfl rfl) ?_
  intro a ht
  refine wpList_nil ?_
  refine then_normal ?_
  refine wp_seq ?_
  refine wpr ?_
  refine wpl rfl rfl ht (ev_assign ht rfl rfl) ?_
  intro a ht
  refine wpList_nil ?_
  refine then_normal ?_
  refine wp_ret ?_
  have hres := ht.res (P := Try.prog) (w := w) (rs := [.tmp 2]) (vs := [.bool false]) (.tmp rfl .nil)
  obtain rfl := Option.some.inj H
  exact leave ht rfl hres ⟨rfl, ((hm.pick [] rfl (by decide)).pickφ [] rfl).post fun _ h => h⟩

end Go.Proofs.Ytbgniopmmankdaa.G
