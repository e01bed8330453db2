/- What each Go function computes, as a Lean function, and the proof that it does: written by a program of this session (wip/gen), part 8. -/
import Derived.Test.YtbgniopmmankdaaGFnExactPointOrbits7
namespace Go.Proofs.Ytbgniopmmankdaa.G
open Go Go.RowKit Go.Proofs.Ytbgniopmmankdaa.K
set_option linter.unusedVariables false
set_option linter.unusedSimpArgs false

/-! ### impl_tracer_all__Colouring_isMoved_2: function 49 ((*loop.example/g01362/impl.tracer).all) -/
mutual
def impl_tracer_all__Colouring_isMoved_2.l0 : Nat → Col → List Int → (Nat → Bool) → List Int → Int → Int → Option (Bool)
  | 0, _, _, _, _, _, _ => none
  | q6 + 1, t, t2, t3, p, t5, xs0_1 => if xs0_1 < t.p then ((guardO (0 ≤ t5 ∧ t5 < 17)).bind fun _ => (guardO (0 ≤ xs0_1 ∧ xs0_1 < 17)).bind fun _ => if (t3 (t5.toNat * 17 + xs0_1.toNat)) = true then (impl_tracer_all__Colouring_isMoved_2.l1 q6 t t2 t3 p t5 xs0_1 0) else (impl_tracer_all__Colouring_isMoved_2.l0 q6 t t2 t3 p t5 (w64 (xs0_1 + 1)))) else (some true)
def impl_tracer_all__Colouring_isMoved_2.l1 : Nat → Col → List Int → (Nat → Bool) → List Int → Int → Int → Int → Option (Bool)
  | 0, _, _, _, _, _, _, _ => none
  | q11 + 1, t, t2, t3, p, t5, xs0_1, xs1_1 => if xs1_1 < (p.length : Int) then ((getI p xs1_1).bind fun t13 => if t13 = xs0_1 then (impl_tracer_all__Colouring_isMoved_2.l0 q11 t t2 t3 p t5 (w64 (xs0_1 + 1))) else ((getI t2 xs1_1).bind fun t13514 => (impl_Colouring_at.f t t13514 t5).bind fun t16514 => (impl_Colouring_at.f t t13 xs0_1).bind fun t23514 => if t16514 ≠ t23514 then (impl_tracer_all__Colouring_isMoved_2.l0 q11 t t2 t3 p t5 (w64 (xs0_1 + 1))) else (impl_tracer_all__Colouring_isMoved_2.l1 q11 t t2 t3 p t5 xs0_1 (w64 (xs1_1 + 1))))) else ((guardO (p.length < 17)).bind fun _ => (push p xs0_1).bind fun l27020 => (impl_tracer_all__Colouring_isMoved_2.f q11 t t2 t3 l27020).bind fun t27021 => if t27021 = true then (impl_tracer_all__Colouring_isMoved_2.l0 q11 t t2 t3 p t5 (w64 (xs0_1 + 1))) else (some false))
def impl_tracer_all__Colouring_isMoved_2.f : Nat → Col → List Int → (Nat → Bool) → List Int → Option (Bool)
  | 0, _, _, _, _ => none
  | k + 1, t, t2, t3, p => if (p.length : Int) = (t2.length : Int) then ((impl_Colouring_isMoved_2.f p).bind fun t4 => some t4) else ((getI t2 (p.length : Int)).bind fun t5 => impl_tracer_all__Colouring_isMoved_2.l0 k t t2 t3 p t5 0)
end
set_option maxRecDepth 100000 in
set_option maxHeartbeats 20000000 in
theorem impl_tracer_all__Colouring_isMoved_2.calls (k : Nat) (X : List Nat) (w0 : World) (b : Nat) (b2 : Nat) (A : Option Addr) (c : Nat) (m : Nat) (A2 : Option Addr) (m2 : Nat) (t : Col) (t2 : List Int) (t3 : Nat → Bool) (p : List Int) (r : Bool)
    (hp : Pre X w0 [.blk b 86 ([.pointer (some ⟨b2, 0, none⟩), .pointer (some ⟨b2, 0, none⟩), .slice A m c] ++ (gridC 289 t3)), .blk b2 27 (Col.cells t), .vec A2 17 2 1 m2 (ints p)] [IntsAt A c m t2]) (H : impl_tracer_all__Colouring_isMoved_2.f k t t2 t3 p = some r) :
    Calls Try.prog 49 [.pointer (some ⟨b, 0, none⟩), .slice A2 m2 17, .func (.func 62) #[] #[]].toArray w0 (Ret fun v w => v = .bool r ∧ Post X (fps [.blk b 86 ([.pointer (some ⟨b2, 0, none⟩), .pointer (some ⟨b2, 0, none⟩), .slice A m c] ++ (gridC 289 t3)), .blk b2 27 (Col.cells t), .vec A2 17 2 1 m2 (ints p)]) w0 [.blk b 86 ([.pointer (some ⟨b2, 0, none⟩), .pointer (some ⟨b2, 0, none⟩), .slice A m c] ++ (gridC 289 t3)), .blk b2 27 (Col.cells t), .vec A2 17 2 1 m2 (ints p)] [] w) := by
  induction k using Nat.strongRecOn generalizing X w0 b b2 A c m A2 m2 t t2 t3 p r with
  | _ k ih =>
  cases k with
  | zero => cases H
  | succ k =>
  rw [impl_tracer_all__Colouring_isMoved_2.f] at H
  refine enterM (n := 97) hp Try.func49 rfl rfl (Nat.le_of_ble_eq_true rfl) fun a w ht hm => ?_
  induction k using Nat.strongRecOn with
  | _ k ih =>
  refine wp_seq ?_
  refine wpr ?_
  refine wpl rfl rfl ht (ev_assign ht rfl rfl) ?_
  intro a ht
  refine wpList_nil ?_
  refine then_normal ?_
  refine wp_seq ?_
  refine wpr ?_
  refine wpl rfl rfl ht (ev_move ht rfl rfl) ?_
  intro a ht
  refine wpl rfl rfl ht (ev_len_of ht rfl rfl und_43 (hm.vec_row 2 rfl)) ?_
  intro a ht
  refine wpl rfl rfl ht (ev_assign ht rfl rfl) ?_
  intro a ht
  refine wpList_nil ?_
  refine then_normal ?_
  refine wp_seq ?_
  refine wp_seq ?_
  refine wpr ?_
  refine wpl rfl rfl ht (ev_move ht rfl rfl) ?_
  intro a ht
  refine wpl rfl rfl ht (ev_move ht rfl rfl) ?_
  intro a ht
  refine wpl rfl rfl ht (ev_nilCheck ht rfl rfl) ?_
  intro a ht
  refine wpl rfl rfl ht (ev_fieldAddr ht rfl rfl fo_86_2) ?_
  intro a ht
  refine wpl rfl rfl ht (ev_load ht rfl rfl sc_43 (hm.blk_cell 0 rfl rfl)) ?_
  intro a ht
  refine wpl rfl rfl ht (ev_len_of ht rfl rfl und_43 (hm.fact (φ := IntsAt A c m t2) 0 rfl)) ?_
  intro a ht
  refine wpl rfl rfl ht (ev_cmp ht rfl rfl rfl rfl) ?_
  intro a ht
  refine wpList_nil ?_
  refine then_normal ?_
  by_cases h1 : (p.length : Int) = (t2.length : Int)
  · replace H := ite_yes h1 H
    refine wpc_yes ht rfl (decide_eq_true h1) ?_
    refine wp_seq ?_
    refine wpr ?_
    refine wpl rfl rfl ht (ev_move ht rfl rfl) ?_
    intro a ht
    refine wpl rfl rfl ht (ev_move ht rfl rfl) ?_
    intro a ht
    obtain ⟨t4, et4, H⟩ := bind_get H
    have hcall := impl_Colouring_isMoved_2.calls _ _ A2 17 m2 p _ ((fun (hq : Ms _ _ _ ([] ++ [.blk b 86 ([.pointer (some ⟨b2, 0, none⟩), .pointer (some ⟨b2, 0, none⟩), .slice A m c] ++ (gridC 289 t3)), .blk b2 27 (Col.cells t), .vec A2 17 2 1 m2 (ints p)]) _ _) => hq.lend (φp := [IntsAt A2 17 m2 p]) (allRO_cons (hq.lendVec 2 rfl) (allRO_nil))) (hm.pick (own' := [] ++ [.blk b 86 ([.pointer (some ⟨b2, 0, none⟩), .pointer (some ⟨b2, 0, none⟩), .slice A m c] ++ (gridC 289 t3)), .blk b2 27 (Col.cells t), .vec A2 17 2 1 m2 (ints p)]) [0, 1, 2] rfl (by decide))) et4
    refine wpl_call _ rfl rfl ht rfl rfl rfl rfl can_62 hcall ?_
    clear hcall
    rintro _ w ⟨rfl, hpost⟩ a ht
    replace hm := (hm.pick (own' := [] ++ [.blk b 86 ([.pointer (some ⟨b2, 0, none⟩), .pointer (some ⟨b2, 0, none⟩), .slice A m c] ++ (gridC 289 t3)), .blk b2 27 (Col.cells t), .vec A2 17 2 1 m2 (ints p)]) [0, 1, 2] rfl (by decide)).backL hpost
    clear hpost
    refine wpl rfl rfl ht (ev_assign ht rfl rfl) ?_
    intro a ht
    refine wpList_nil ?_
    refine then_normal ?_
    refine wp_ret ?_
    refine then_ret ?_
    have hres := ht.res (P := Try.prog) (w := w) (rs := [.tmp 6]) (vs := [.bool t4]) (.tmp rfl .nil)
    obtain rfl := Option.some.inj H
    exact leave ht rfl hres ⟨rfl, ((hm.pick [0, 1, 2] rfl (by decide)).pickφ [] rfl).post fun _ h => h⟩
  · replace H := ite_no h1 H
    refine wpc_no ht rfl (decide_eq_false h1) ?_
    refine wp_skip ?_
    refine then_normal ?_
    refine wp_seq ?_
    refine wpr ?_
    refine wpl rfl rfl ht (ev_move ht rfl rfl) ?_
    intro a ht
    refine wpl rfl rfl ht (ev_nilCheck ht rfl rfl) ?_
    intro a ht
    refine wpl rfl rfl ht (ev_fieldAddr ht rfl rfl fo_86_2) ?_
    intro a ht
    refine wpl rfl rfl ht (ev_load ht rfl rfl sc_43 (hm.blk_cell 0 rfl rfl)) ?_
    intro a ht
    refine wpl rfl rfl ht (ev_move ht rfl rfl) ?_
    intro a ht
    obtain ⟨t5, et5, H⟩ := bind_get H
    refine wpl rfl rfl ht (ev_index_ints ht rfl rfl rfl so_43 (hm.fact (φ := IntsAt A c m t2) 0 rfl) et5) ?_
    intro a ht
    refine wpl rfl rfl ht (ev_load ht rfl rfl sc_2 (RowAt.cell (hm.fact (φ := IntsAt A c m t2) 0 rfl) (ints_get et5) rfl)) ?_
    intro a ht
    refine wpl rfl rfl ht (ev_assign ht rfl rfl) ?_
    intro a ht
    refine wpList_nil ?_
    refine then_normal ?_
    refine wp_seq ?_
    refine wp_seq ?_
    refine wpr ?_
    refine wpl rfl rfl ht (ev_move ht rfl rfl) ?_
    intro a ht
    refine wpl rfl rfl ht (ev_nilCheck ht rfl rfl) ?_
    intro a ht
    refine wpl rfl rfl ht (ev_fieldAddr ht rfl rfl fo_86_1) ?_
    intro a ht
    refine wpl rfl rfl ht (ev_load ht rfl rfl sc_50 (hm.blk_cell 0 rfl rfl)) ?_
    intro a ht
    refine wpl rfl rfl ht (ev_nilCheck ht rfl rfl) ?_
    intro a ht
    refine wpl rfl rfl ht (ev_fieldAddr ht rfl rfl fo_27_0) ?_
    intro a ht
    refine wpl rfl rfl ht (ev_load ht rfl rfl sc_2 (hm.blk_cell 1 rfl rfl)) ?_
    intro a ht
    refine wpl rfl rfl ht (ev_move ht rfl rfl) ?_
    intro a ht
    refine wpList_nil ?_
    refine then_normal ?_
    refine wp_block ?_
    refine wpLoop (fun q a w => ∃ (xs0_1 : Int), impl_tracer_all__Colouring_isMoved_2.l0 q t t2 t3 p t5 xs0_1 = some r ∧ q ≤ k ∧ Tm 97 [(0, .pointer (some ⟨b, 0, none⟩)), (1, .slice A2 m2 17), (2, .func (.func 62) #[] #[]), (6, .bool false), (8, .int .i64 t5), (38, .int .i64 t.p), (39, .int .i64 xs0_1)] a ∧ Ms X (fps [.blk b 86 ([.pointer (some ⟨b2, 0, none⟩), .pointer (some ⟨b2, 0, none⟩), .slice A m c] ++ (gridC 289 t3)), .blk b2 27 (Col.cells t), .vec A2 17 2 1 m2 (ints p)]) w0 [.blk b 86 ([.pointer (some ⟨b2, 0, none⟩), .pointer (some ⟨b2, 0, none⟩), .slice A m c] ++ (gridC 289 t3)), .blk b2 27 (Col.cells t), .vec A2 17 2 1 m2 (ints p)] [IntsAt A c m t2] w) (k0 := k) ⟨0, H, Nat.le_refl _, ht.sub ⟨rfl, rfl, rfl, rfl, rfl, rfl, rfl, trivial⟩, (hm.pick [0, 1, 2] rfl (by decide)).pickφ [0] rfl⟩ ?_
    clear H ht hm
    intro q6 a w hJ
    obtain ⟨xs0_1, H, hqq6, ht, hm⟩ := hJ
    cases q6 with
    | zero => cases H
    | succ q6 =>
    rw [impl_tracer_all__Colouring_isMoved_2.l0] at H
    refine wp_seq ?_
    refine wpr ?_
    refine wpl rfl rfl ht (ev_cmp ht rfl rfl rfl rfl) ?_
    intro a ht
    refine wpList_nil ?_
    refine then_normal ?_
    refine wp_seq ?_
    by_cases h7 : xs0_1 < t.p
    · replace H := ite_yes h7 H
      refine wpc_yes ht rfl (decide_eq_true h7) ?_
      refine wp_skip ?_
      refine then_normal ?_
      refine wp_seq ?_
      refine wp_block ?_
      refine wp_seq ?_
      refine wpr ?_
      refine wpl rfl rfl ht (ev_move ht rfl rfl) ?_
      intro a ht
      refine wpl rfl rfl ht (ev_assign ht rfl rfl) ?_
      intro a ht
      refine wpList_nil ?_
      refine then_normal ?_
      refine wp_seq ?_
      refine wp_seq ?_
      refine wpr ?_
      refine wpl rfl rfl ht (ev_move ht rfl rfl) ?_
      intro a ht
      refine wpl rfl rfl ht (ev_move ht rfl rfl) ?_
      intro a ht
      refine wpl rfl rfl ht (ev_move ht rfl rfl) ?_
      intro a ht
      refine wpl rfl rfl ht (ev_nilCheck ht rfl rfl) ?_
      intro a ht
      refine wpl rfl rfl ht (ev_fieldAddr ht rfl rfl fo_86_3) ?_
      intro a ht
      obtain ⟨u8, eu8, H⟩ := bind_get H
      refine wpl rfl rfl ht (ev_indexAddr_arr ht rfl rfl rfl ar_84 (guardO_get eu8).1 (by have := (guardO_get eu8); omega)) ?_
      intro a ht
      obtain ⟨u9, eu9, H⟩ := bind_get H
      refine wpl rfl rfl ht (ev_indexAddr_arr ht rfl rfl rfl ar_83 (guardO_get eu9).1 (by have := (guardO_get eu9); omega)) ?_
      intro a ht
      refine wpl rfl rfl ht (ev_load ht rfl rfl sc_4 (hm.blk_cell 0 rfl (grid_get (guardO_get eu8) (guardO_get eu9)))) ?_
      intro a ht
      refine wpl rfl rfl ht (ev_not ht rfl rfl) ?_
      intro a ht
      refine wpList_nil ?_
      refine then_normal ?_
      by_cases h10 : (t3 (t5.toNat * 17 + xs0_1.toNat)) = true
      · replace H := ite_yes h10 H
        refine wpc_no ht rfl (not_t h10) ?_
        refine wp_skip ?_
        refine then_normal ?_
        refine wp_seq ?_
        refine wpr ?_
        refine wpl rfl rfl ht (ev_assign ht rfl rfl) ?_
        intro a ht
        refine wpList_nil ?_
        refine then_normal ?_
        refine wp_seq ?_
        refine wp_seq ?_
        refine wpr ?_
        refine wpl rfl rfl ht (ev_move ht rfl rfl) ?_
        intro a ht
        refine wpl rfl rfl ht (ev_len_of ht rfl rfl und_43 (hm.vec_row 2 rfl)) ?_
        intro a ht
        refine wpl rfl rfl ht (ev_move ht rfl rfl) ?_
        intro a ht
        refine wpList_nil ?_
        refine then_normal ?_
        refine wp_block ?_
        refine wpLoop (fun q a w => ∃ (xs1_1 : Int), impl_tracer_all__Colouring_isMoved_2.l1 q t t2 t3 p t5 xs0_1 xs1_1 = some r ∧ q ≤ q6 ∧ Tm 97 [(0, .pointer (some ⟨b, 0, none⟩)), (1, .slice A2 m2 17), (2, .func (.func 62) #[] #[]), (6, .bool false), (8, .int .i64 t5), (9, .int .i64 xs0_1), (10, .bool true), (38, .int .i64 t.p), (39, .int .i64 xs0_1), (40, .bool (decide (xs0_1 < t.p))), (41, .int .i64 xs0_1), (42, .pointer (some ⟨b, 0, none⟩)), (43, .int .i64 t5), (44, .int .i64 xs0_1), (45, .pointer (some ⟨b, 0, none⟩)), (46, .pointer (some ⟨b, 0 + 3, none⟩)), (47, .pointer (some ⟨b, 0 + 3 + t5.toNat * 17, none⟩)), (48, .pointer (some ⟨b, 0 + 3 + t5.toNat * 17 + xs0_1.toNat * 1, none⟩)), (49, .bool (t3 (t5.toNat * 17 + xs0_1.toNat))), (50, .bool (!(t3 (t5.toNat * 17 + xs0_1.toNat)))), (51, .slice A2 m2 17), (52, .int .i64 (p.length : Int)), (53, .int .i64 xs1_1)] a ∧ Ms X (fps [.blk b 86 ([.pointer (some ⟨b2, 0, none⟩), .pointer (some ⟨b2, 0, none⟩), .slice A m c] ++ (gridC 289 t3)), .blk b2 27 (Col.cells t), .vec A2 17 2 1 m2 (ints p)]) w0 [.blk b 86 ([.pointer (some ⟨b2, 0, none⟩), .pointer (some ⟨b2, 0, none⟩), .slice A m c] ++ (gridC 289 t3)), .blk b2 27 (Col.cells t), .vec A2 17 2 1 m2 (ints p)] [IntsAt A c m t2] w) (k0 := q6) ⟨0, H, Nat.le_refl _, ht.sub ⟨rfl, rfl, rfl, rfl, rfl, rfl, rfl, rfl, rfl, rfl, rfl, rfl, rfl, rfl, rfl, rfl, rfl, rfl, rfl, rfl, rfl, rfl, rfl, trivial⟩, (hm.pick [0, 1, 2] rfl (by decide)).pickφ [0] rfl⟩ ?_
        clear H ht hm
        intro q11 a w hJ
        obtain ⟨xs1_1, H, hqq11, ht, hm⟩ := hJ
        cases q11 with
        | zero => cases H
        | succ q11 =>
        rw [impl_tracer_all__Colouring_isMoved_2.l1] at H
        refine wp_seq ?_
        refine wpr ?_
        refine wpl rfl rfl ht (ev_cmp ht rfl rfl rfl rfl) ?_
        intro a ht
        refine wpList_nil ?_
        refine then_normal ?_
        refine wp_seq ?_
        by_cases h12 : xs1_1 < (p.length : Int)
        · replace H := ite_yes h12 H
          refine wpc_yes ht rfl (decide_eq_true h12) ?_
          refine wp_skip ?_
          refine then_normal ?_
          refine wp_seq ?_
          refine wp_block ?_
          refine wp_seq ?_
          refine wpr ?_
          refine wpl rfl rfl ht (ev_move ht rfl rfl) ?_
          intro a ht
          obtain ⟨t13, et13, H⟩ := bind_get H
          refine wpl rfl rfl ht (ev_index_ints ht rfl rfl rfl so_43 (hm.vec_row 2 rfl) et13) ?_
          intro a ht
          refine wpl rfl rfl ht (ev_load ht rfl rfl sc_2 (RowAt.cell (hm.vec_row 2 rfl) (ints_get et13) rfl)) ?_
          intro a ht
          refine wpl rfl rfl ht (ev_assign ht rfl rfl) ?_
          intro a ht
          refine wpl rfl rfl ht (ev_assign ht rfl rfl) ?_
          intro a ht
          refine wpList_nil ?_
          refine then_normal ?_
          refine wp_seq ?_
          refine wph_begin (fun w => Ms X (fps [.blk b 86 ([.pointer (some ⟨b2, 0, none⟩), .pointer (some ⟨b2, 0, none⟩), .slice A m c] ++ (gridC 289 t3)), .blk b2 27 (Col.cells t), .vec A2 17 2 1 m2 (ints p)]) w0 [.blk b 86 ([.pointer (some ⟨b2, 0, none⟩), .pointer (some ⟨b2, 0, none⟩), .slice A m c] ++ (gridC 289 t3)), .blk b2 27 (Col.cells t), .vec A2 17 2 1 m2 (ints p)] [IntsAt A c m t2] w) mixed ?_
          replace hm := hm.drew
          have hS : Ms X (fps [.blk b 86 ([.pointer (some ⟨b2, 0, none⟩), .pointer (some ⟨b2, 0, none⟩), .slice A m c] ++ (gridC 289 t3)), .blk b2 27 (Col.cells t), .vec A2 17 2 1 m2 (ints p)]) w0 [.blk b 86 ([.pointer (some ⟨b2, 0, none⟩), .pointer (some ⟨b2, 0, none⟩), .slice A m c] ++ (gridC 289 t3)), .blk b2 27 (Col.cells t), .vec A2 17 2 1 m2 (ints p)] [IntsAt A c m t2] w.drew := (hm.pick [0, 1, 2] rfl (by decide)).pickφ [0] rfl
          generalize w.drew = w at hm hS ⊢
          refine wph_take (i := 0) rfl (by kernel_rfl) (by kernel_rfl) (by kernel_rfl) (fun _ _ _ h => h) rfl ht hS (wanted_plain rfl) (fun w hm => ev_move ht rfl rfl) ?_
          intro a ht
          refine wph_take (i := 1) rfl (by kernel_rfl) (by kernel_rfl) (by kernel_rfl) (fun _ _ _ h => h) rfl ht hS (wanted_plain rfl) (fun w hm => ev_move ht rfl rfl) ?_
          intro a ht
          refine wph_take (i := 2) rfl (by kernel_rfl) (by kernel_rfl) (by kernel_rfl) (fun _ _ _ h => h) rfl ht hS (wanted_plain rfl) (fun w hm => ev_cmp ht rfl rfl rfl rfl) ?_
          intro a ht
          refine wph_take (i := 3) rfl (by kernel_rfl) (by kernel_rfl) (by kernel_rfl) (fun _ _ _ h => h) rfl ht hS (wanted_plain rfl) (fun w hm => ev_move ht rfl rfl) ?_
          intro a ht
          by_cases h3514 : t13 = xs0_1
          · replace H := ite_yes h3514 H
            refine wph_pass (i := 4) rfl (by kernel_rfl) (by kernel_rfl) (by kernel_rfl) (fun _ _ _ h => h) rfl ht hS (wanted_no rfl ht rfl (by rw [(decide_eq_true h3514)]; decide)) ?_
            intro a ht
            refine wph_pass (i := 5) rfl (by kernel_rfl) (by kernel_rfl) (by kernel_rfl) (fun _ _ _ h => h) rfl ht hS (wanted_no rfl ht rfl (by rw [(decide_eq_true h3514)]; decide)) ?_
            intro a ht
            refine wph_pass (i := 6) rfl (by kernel_rfl) (by kernel_rfl) (by kernel_rfl) (fun _ _ _ h => h) rfl ht hS (wanted_no rfl ht rfl (by rw [(decide_eq_true h3514)]; decide)) ?_
            intro a ht
            refine wph_pass (i := 7) rfl (by kernel_rfl) (by kernel_rfl) (by kernel_rfl) (fun _ _ _ h => h) rfl ht hS (wanted_no rfl ht rfl (by rw [(decide_eq_true h3514)]; decide)) ?_
            intro a ht
            refine wph_pass (i := 8) rfl (by kernel_rfl) (by kernel_rfl) (by kernel_rfl) (fun _ _ _ h => h) rfl ht hS (wanted_no rfl ht rfl (by rw [(decide_eq_true h3514)]; decide)) ?_
            intro a ht
            refine wph_pass (i := 9) rfl (by kernel_rfl) (by kernel_rfl) (by kernel_rfl) (fun _ _ _ h => h) rfl ht hS (wanted_no rfl ht rfl (by rw [(decide_eq_true h3514)]; decide)) ?_
            intro a ht
            refine wph_pass (i := 10) rfl (by kernel_rfl) (by kernel_rfl) (by kernel_rfl) (fun _ _ _ h => h) rfl ht hS (wanted_no rfl ht rfl (by rw [(decide_eq_true h3514)]; decide)) ?_
            intro a ht
            refine wph_pass (i := 11) rfl (by kernel_rfl) (by kernel_rfl) (by kernel_rfl) (fun _ _ _ h => h) rfl ht hS (wanted_no rfl ht rfl (by rw [(decide_eq_true h3514)]; decide)) ?_
            intro a ht
            refine wph_pass (i := 12) rfl (by kernel_rfl) (by kernel_rfl) (by kernel_rfl) (fun _ _ _ h => h) rfl ht hS (wanted_no rfl ht rfl (by rw [(decide_eq_true h3514)]; decide)) ?_
            intro a ht
            refine wph_pass (i := 13) rfl (by kernel_rfl) (by kernel_rfl) (by kernel_rfl) (fun _ _ _ h => h) rfl ht hS (wanted_no rfl ht rfl (by rw [(decide_eq_true h3514)]; decide)) ?_
            intro a ht
            refine wph_pass (i := 14) rfl (by kernel_rfl) (by kernel_rfl) (by kernel_rfl) (fun _ _ _ h => h) rfl ht hS (wanted_no rfl ht rfl (by rw [(decide_eq_true h3514)]; decide)) ?_
            intro a ht
            refine wph_pass (i := 15) rfl (by kernel_rfl) (by kernel_rfl) (by kernel_rfl) (fun _ _ _ h => h) rfl ht hS (wanted_no rfl ht rfl (by rw [(decide_eq_true h3514)]; decide)) ?_
            intro a ht
            refine wph_pass (i := 16) rfl (by kernel_rfl) (by kernel_rfl) (by kernel_rfl) (fun _ _ _ h => h) rfl ht hS (wanted_no rfl ht rfl (by rw [(decide_eq_true h3514)]; decide)) ?_
            intro a ht
            refine wph_pass (i := 17) rfl (by kernel_rfl) (by kernel_rfl) (by kernel_rfl) (fun _ _ _ h => h) rfl ht hS (wanted_no rfl ht rfl (by rw [(decide_eq_true h3514)]; decide)) ?_
            intro a ht
            refine wph_pass (i := 18) rfl (by kernel_rfl) (by kernel_rfl) (by kernel_rfl) (fun _ _ _ h => h) rfl ht hS (wanted_no rfl ht rfl (by rw [(decide_eq_true h3514)]; decide)) ?_
            intro a ht
            refine wph_pass (i := 19) rfl (by kernel_rfl) (by kernel_rfl) (by kernel_rfl) (fun _ _ _ h => h) rfl ht hS (wanted_no rfl ht rfl (by rw [(decide_eq_true h3514)]; decide)) ?_
            intro a ht
            refine wph_pass (i := 20) rfl (by kernel_rfl) (by kernel_rfl) (by kernel_rfl) (fun _ _ _ h => h) rfl ht hS (wanted_no rfl ht rfl (by rw [(decide_eq_true h3514)]; decide)) ?_
            intro a ht
            refine wph_pass (i := 21) rfl (by kernel_rfl) (by kernel_rfl) (by kernel_rfl) (fun _ _ _ h => h) rfl ht hS (wanted_no rfl ht rfl (by rw [(decide_eq_true h3514)]; decide)) ?_
            intro a ht
            refine wph_pass (i := 22) rfl (by kernel_rfl) (by kernel_rfl) (by kernel_rfl) (fun _ _ _ h => h) rfl ht hS (wanted_no rfl ht rfl (by rw [(decide_eq_true h3514)]; decide)) ?_
            intro a ht
            refine wph_pass (i := 23) rfl (by kernel_rfl) (by kernel_rfl) (by kernel_rfl) (fun _ _ _ h => h) rfl ht hS (wanted_no rfl ht rfl (by rw [(decide_eq_true h3514)]; decide)) ?_
            intro a ht
            refine wph_pass (i := 24) rfl (by kernel_rfl) (by kernel_rfl) (by kernel_rfl) (fun _ _ _ h => h) rfl ht hS (wanted_no rfl ht rfl (by rw [(decide_eq_true h3514)]; decide)) ?_
            intro a ht
            refine wph_take (i := 25) rfl (by kernel_rfl) (by kernel_rfl) (by kernel_rfl) (fun _ _ _ h => h) rfl ht hS (wanted_plain rfl) (fun w hm => ev_pick_yes ht rfl rfl (decide_eq_true h3514) rfl) ?_
            intro a ht
            refine wph_done (by kernel_rfl) ?_
            refine then_normal ?_
            refine wpc_yes ht rfl rfl ?_
            refine wp_seq ?_
            refine wpr ?_
            refine wpl rfl rfl ht (ev_assign ht rfl rfl) ?_
            intro a ht
            refine wpList_nil ?_
            refine then_normal ?_
            refine wp_exit ?_
            refine blk_miss (by decide) ?_
            refine then_exit ?_
            refine then_exit ?_
            refine blk_hit ?_
            refine then_normal ?_
            refine wp_seq ?_
            refine wpr ?_
            refine wpl rfl rfl ht (ev_move ht rfl rfl) ?_
            intro a ht
            refine wpl rfl rfl ht (ev_move ht rfl rfl) ?_
            intro a ht
            refine wpl_no rfl rfl ht rfl (by decide) ?_
            intro a ht
            refine wpl_no rfl rfl ht rfl (by decide) ?_
            intro a ht
            refine wpl_no rfl rfl ht rfl (by decide) ?_
            intro a ht
            refine wpl_no rfl rfl ht rfl (by decide) ?_
            intro a ht
            refine wpl_no rfl rfl ht rfl (by decide) ?_
            intro a ht
            refine wpl_no rfl rfl ht rfl (by decide) ?_
            intro a ht
            refine wpl_no rfl rfl ht rfl (by decide) ?_
            intro a ht
            refine wpl_no rfl rfl ht rfl (by decide) ?_
            intro a ht
            refine wpl rfl rfl ht (ev_pick_no ht rfl rfl rfl rfl) ?_
            intro a ht
            refine wpList_nil ?_
            refine then_normal ?_
            refine wpc_no ht rfl rfl ?_
            refine wp_skip ?_
            refine blk_normal ?_
            refine then_normal ?_
            refine wpr ?_
            refine wpl rfl rfl ht (ev_arith ht rfl rfl rfl rfl) ?_
            intro a ht
            refine wpl rfl rfl ht (ev_move ht rfl rfl) ?_
            intro a ht
            refine wpList_nil ?_
            exact then_normal ⟨q11, by omega, (w64 (xs0_1 + 1)), H, by omega, ht.sub ⟨rfl, rfl, rfl, rfl, rfl, rfl, rfl, trivial⟩, (hm.pick [0, 1, 2] rfl (by decide)).pickφ [0] rfl⟩
          · replace H := ite_no h3514 H
            refine wph_take (i := 4) rfl (by kernel_rfl) (by kernel_rfl) (by kernel_rfl) (fun _ _ _ h => h) rfl ht hS (wanted_yes rfl ht rfl ((decide_eq_false h3514))) (fun w hm => ev_move ht rfl rfl) ?_
            intro a ht
            refine wph_take (i := 5) rfl (by kernel_rfl) (by kernel_rfl) (by kernel_rfl) (fun _ _ _ h => h) rfl ht hS (wanted_yes rfl ht rfl ((decide_eq_false h3514))) (fun w hm => ev_nilCheck ht rfl rfl) ?_
            intro a ht
            refine wph_take (i := 6) rfl (by kernel_rfl) (by kernel_rfl) (by kernel_rfl) (fun _ _ _ h => h) rfl ht hS (wanted_yes rfl ht rfl ((decide_eq_false h3514))) (fun w hm => ev_fieldAddr ht rfl rfl fo_86_0) ?_
            intro a ht
            refine wph_take (i := 7) rfl (by kernel_rfl) (by kernel_rfl) (by kernel_rfl) (fun _ _ _ h => h) rfl ht hS (wanted_yes rfl ht rfl ((decide_eq_false h3514))) (fun w hm => ev_load ht rfl rfl sc_50 (hm.blk_cell 0 rfl rfl)) ?_
            intro a ht
            refine wph_take (i := 8) rfl (by kernel_rfl) (by kernel_rfl) (by kernel_rfl) (fun _ _ _ h => h) rfl ht hS (wanted_yes rfl ht rfl ((decide_eq_false h3514))) (fun w hm => ev_move ht rfl rfl) ?_
            intro a ht
            refine wph_take (i := 9) rfl (by kernel_rfl) (by kernel_rfl) (by kernel_rfl) (fun _ _ _ h => h) rfl ht hS (wanted_yes rfl ht rfl ((decide_eq_false h3514))) (fun w hm => ev_nilCheck ht rfl rfl) ?_
            intro a ht
            refine wph_take (i := 10) rfl (by kernel_rfl) (by kernel_rfl) (by kernel_rfl) (fun _ _ _ h => h) rfl ht hS (wanted_yes rfl ht rfl ((decide_eq_false h3514))) (fun w hm => ev_fieldAddr ht rfl rfl fo_86_2) ?_
            intro a ht
            refine wph_take (i := 11) rfl (by kernel_rfl) (by kernel_rfl) (by kernel_rfl) (fun _ _ _ h => h) rfl ht hS (wanted_yes rfl ht rfl ((decide_eq_false h3514))) (fun w hm => ev_load ht rfl rfl sc_43 (hm.blk_cell 0 rfl rfl)) ?_
            intro a ht
            refine wph_take (i := 12) rfl (by kernel_rfl) (by kernel_rfl) (by kernel_rfl) (fun _ _ _ h => h) rfl ht hS (wanted_yes rfl ht rfl ((decide_eq_false h3514))) (fun w hm => ev_move ht rfl rfl) ?_
            intro a ht
            obtain ⟨t13514, et13514, H⟩ := bind_get H
            refine wph_take (i := 13) rfl (by kernel_rfl) (by kernel_rfl) (by kernel_rfl) (fun _ _ _ h => h) rfl ht hS (wanted_yes rfl ht rfl ((decide_eq_false h3514))) (fun w hm => ev_index_ints ht rfl rfl rfl so_43 (hm.fact (φ := IntsAt A c m t2) 0 rfl) et13514) ?_
            intro a ht
            refine wph_take (i := 14) rfl (by kernel_rfl) (by kernel_rfl) (by kernel_rfl) (fun _ _ _ h => h) rfl ht hS (wanted_yes rfl ht rfl ((decide_eq_false h3514))) (fun w hm => ev_load ht rfl rfl sc_2 (RowAt.cell (hm.fact (φ := IntsAt A c m t2) 0 rfl) (ints_get et13514) rfl)) ?_
            intro a ht
            refine wph_take (i := 15) rfl (by kernel_rfl) (by kernel_rfl) (by kernel_rfl) (fun _ _ _ h => h) rfl ht hS (wanted_yes rfl ht rfl ((decide_eq_false h3514))) (fun w hm => ev_move ht rfl rfl) ?_
            intro a ht
            refine wph_take (i := 17) rfl (by kernel_rfl) (by kernel_rfl) (by kernel_rfl) (fun _ _ _ h => h) rfl ht hS (wanted_yes rfl ht rfl ((decide_eq_false h3514))) (fun w hm => ev_move ht rfl rfl) ?_
            intro a ht
            refine wph_take (i := 18) rfl (by kernel_rfl) (by kernel_rfl) (by kernel_rfl) (fun _ _ _ h => h) rfl ht hS (wanted_yes rfl ht rfl ((decide_eq_false h3514))) (fun w hm => ev_nilCheck ht rfl rfl) ?_
            intro a ht
            refine wph_take (i := 19) rfl (by kernel_rfl) (by kernel_rfl) (by kernel_rfl) (fun _ _ _ h => h) rfl ht hS (wanted_yes rfl ht rfl ((decide_eq_false h3514))) (fun w hm => ev_fieldAddr ht rfl rfl fo_86_1) ?_
            intro a ht
            refine wph_take (i := 20) rfl (by kernel_rfl) (by kernel_rfl) (by kernel_rfl) (fun _ _ _ h => h) rfl ht hS (wanted_yes rfl ht rfl ((decide_eq_false h3514))) (fun w hm => ev_load ht rfl rfl sc_50 (hm.blk_cell 0 rfl rfl)) ?_
            intro a ht
            refine wph_take (i := 21) rfl (by kernel_rfl) (by kernel_rfl) (by kernel_rfl) (fun _ _ _ h => h) rfl ht hS (wanted_yes rfl ht rfl ((decide_eq_false h3514))) (fun w hm => ev_move ht rfl rfl) ?_
            intro a ht
            refine wph_take (i := 22) rfl (by kernel_rfl) (by kernel_rfl) (by kernel_rfl) (fun _ _ _ h => h) rfl ht hS (wanted_yes rfl ht rfl ((decide_eq_false h3514))) (fun w hm => ev_move ht rfl rfl) ?_
            intro a ht
            refine wph_one (i := 16) (by kernel_rfl) (wph_step rfl ?_)
            refine wpl_yes rfl ht rfl ((decide_eq_false h3514)) ?_
            obtain ⟨t16514, et16514, H⟩ := bind_get H
            have hcall := impl_Colouring_at.calls _ _ b2 t t13514 t5 _ ((fun (hq : Ms _ _ _ ([.blk b2 27 (Col.cells t)] ++ [.blk b 86 ([.pointer (some ⟨b2, 0, none⟩), .pointer (some ⟨b2, 0, none⟩), .slice A m c] ++ (gridC 289 t3)), .vec A2 17 2 1 m2 (ints p)]) _ _) => hq.lend (φp := []) (allRO_nil)) (hm.pick (own' := [.blk b2 27 (Col.cells t)] ++ [.blk b 86 ([.pointer (some ⟨b2, 0, none⟩), .pointer (some ⟨b2, 0, none⟩), .slice A m c] ++ (gridC 289 t3)), .vec A2 17 2 1 m2 (ints p)]) [1, 0, 2] rfl (by decide))) et16514
            refine wpl_call _ rfl rfl ht rfl rfl rfl rfl can_57 hcall ?_
            clear hcall
            rintro _ w ⟨rfl, hpost⟩ a ht
            replace hm := (hm.pick (own' := [.blk b2 27 (Col.cells t)] ++ [.blk b 86 ([.pointer (some ⟨b2, 0, none⟩), .pointer (some ⟨b2, 0, none⟩), .slice A m c] ++ (gridC 289 t3)), .vec A2 17 2 1 m2 (ints p)]) [1, 0, 2] rfl (by decide)).backL hpost
            clear hpost
            have hS : Ms X (fps [.blk b 86 ([.pointer (some ⟨b2, 0, none⟩), .pointer (some ⟨b2, 0, none⟩), .slice A m c] ++ (gridC 289 t3)), .blk b2 27 (Col.cells t), .vec A2 17 2 1 m2 (ints p)]) w0 [.blk b 86 ([.pointer (some ⟨b2, 0, none⟩), .pointer (some ⟨b2, 0, none⟩), .slice A m c] ++ (gridC 289 t3)), .blk b2 27 (Col.cells t), .vec A2 17 2 1 m2 (ints p)] [IntsAt A c m t2] w := (hm.pick [1, 0, 2] rfl (by decide)).pickφ [0] rfl
            refine wpList_nil (qn ⟨hS, ?_⟩)
            refine wph_one (i := 23) (by kernel_rfl) (wph_step rfl ?_)
            refine wpl_yes rfl ht rfl ((decide_eq_false h3514)) ?_
            obtain ⟨t23514, et23514, H⟩ := bind_get H
            have hcall := impl_Colouring_at.calls _ _ b2 t t13 xs0_1 _ ((fun (hq : Ms _ _ _ ([.blk b2 27 (Col.cells t)] ++ [.blk b 86 ([.pointer (some ⟨b2, 0, none⟩), .pointer (some ⟨b2, 0, none⟩), .slice A m c] ++ (gridC 289 t3)), .vec A2 17 2 1 m2 (ints p)]) _ _) => hq.lend (φp := []) (allRO_nil)) (hm.pick (own' := [.blk b2 27 (Col.cells t)] ++ [.blk b 86 ([.pointer (some ⟨b2, 0, none⟩), .pointer (some ⟨b2, 0, none⟩), .slice A m c] ++ (gridC 289 t3)), .vec A2 17 2 1 m2 (ints p)]) [0, 1, 2] rfl (by decide))) et23514
            refine wpl_call _ rfl rfl ht rfl rfl rfl rfl can_57 hcall ?_
            clear hcall
            rintro _ w ⟨rfl, hpost⟩ a ht
            replace hm := (hm.pick (own' := [.blk b2 27 (Col.cells t)] ++ [.blk b 86 ([.pointer (some ⟨b2, 0, none⟩), .pointer (some ⟨b2, 0, none⟩), .slice A m c] ++ (gridC 289 t3)), .vec A2 17 2 1 m2 (ints p)]) [0, 1, 2] rfl (by decide)).backL hpost
            clear hpost
            have hS : Ms X (fps [.blk b 86 ([.pointer (some ⟨b2, 0, none⟩), .pointer (some ⟨b2, 0, none⟩), .slice A m c] ++ (gridC 289 t3)), .blk b2 27 (Col.cells t), .vec A2 17 2 1 m2 (ints p)]) w0 [.blk b 86 ([.pointer (some ⟨b2, 0, none⟩), .pointer (some ⟨b2, 0, none⟩), .slice A m c] ++ (gridC 289 t3)), .blk b2 27 (Col.cells t), .vec A2 17 2 1 m2 (ints p)] [IntsAt A c m t2] w := (hm.pick [1, 0, 2] rfl (by decide)).pickφ [0] rfl
            refine wpList_nil (qn ⟨hS, ?_⟩)
            refine wph_take (i := 24) rfl (by kernel_rfl) (by kernel_rfl) (by kernel_rfl) (fun _ _ _ h => h) rfl ht hS (wanted_yes rfl ht rfl ((decide_eq_false h3514))) (fun w hm => ev_cmp ht rfl rfl rfl rfl) ?_
            intro a ht
            refine wph_take (i := 25) rfl (by kernel_rfl) (by kernel_rfl) (by kernel_rfl) (fun _ _ _ h => h) rfl ht hS (wanted_plain rfl) (fun w hm => ev_pick_no ht rfl rfl (decide_eq_false h3514) rfl) ?_
            intro a ht
            refine wph_done (by kernel_rfl) ?_
            refine then_normal ?_
            by_cases h27014 : t16514 ≠ t23514
            · replace H := ite_yes h27014 H
              refine wpc_yes ht rfl (decide_eq_true h27014) ?_
              refine wp_seq ?_
              refine wpr ?_
              refine wpl rfl rfl ht (ev_assign ht rfl rfl) ?_
              intro a ht
              refine wpList_nil ?_
              refine then_normal ?_
              refine wp_exit ?_
              refine blk_miss (by decide) ?_
              refine then_exit ?_
              refine then_exit ?_
              refine blk_hit ?_
              refine then_normal ?_
              refine wp_seq ?_
              refine wpr ?_
              refine wpl rfl rfl ht (ev_move ht rfl rfl) ?_
              intro a ht
              refine wpl rfl rfl ht (ev_move ht rfl rfl) ?_
              intro a ht
              refine wpl_no rfl rfl ht rfl (by decide) ?_
              intro a ht
              refine wpl_no rfl rfl ht rfl (by decide) ?_
              intro a ht
              refine wpl_no rfl rfl ht rfl (by decide) ?_
              intro a ht
              refine wpl_no rfl rfl ht rfl (by decide) ?_
              intro a ht
              refine wpl_no rfl rfl ht rfl (by decide) ?_
              intro a ht
              refine wpl_no rfl rfl ht rfl (by decide) ?_
              intro a ht
              refine wpl_no rfl rfl ht rfl (by decide) ?_
              intro a ht
              refine wpl_no rfl rfl ht rfl (by decide) ?_
              intro a ht
              refine wpl rfl rfl ht (ev_pick_no ht rfl rfl rfl rfl) ?_
              intro a ht
              refine wpList_nil ?_
              refine then_normal ?_
              refine wpc_no ht rfl rfl ?_
              refine wp_skip ?_
              refine blk_normal ?_
              refine then_normal ?_
              refine wpr ?_
              refine wpl rfl rfl ht (ev_arith ht rfl rfl rfl rfl) ?_
              intro a ht
              refine wpl rfl rfl ht (ev_move ht rfl rfl) ?_
              intro a ht
              refine wpList_nil ?_
              exact then_normal ⟨q11, by omega, (w64 (xs0_1 + 1)), H, by omega, ht.sub ⟨rfl, rfl, rfl, rfl, rfl, rfl, rfl, trivial⟩, (hm.pick [1, 0, 2] rfl (by decide)).pickφ [0] rfl⟩
            · replace H := ite_no h27014 H
              refine wpc_no ht rfl (decide_eq_false h27014) ?_
              refine wp_skip ?_
              refine blk_normal ?_
              refine then_normal ?_
              refine wpr ?_
              refine wpl rfl rfl ht (ev_arith ht rfl rfl rfl rfl) ?_
              intro a ht
              refine wpl rfl rfl ht (ev_move ht rfl rfl) ?_
              intro a ht
              refine wpList_nil ?_
              exact then_normal ⟨q11, by omega, (w64 (xs1_1 + 1)), H, by omega, ht.sub ⟨rfl, rfl, rfl, rfl, rfl, rfl, rfl, rfl, rfl, rfl, rfl, rfl, rfl, rfl, rfl, rfl, rfl, rfl, rfl, rfl, rfl, rfl, rfl, trivial⟩, (hm.pick [1, 0, 2] rfl (by decide)).pickφ [0] rfl⟩
        · replace H := ite_no h12 H
          refine wpc_no ht rfl (decide_eq_false h12) ?_
          refine wp_exit ?_
          refine then_exit ?_
          refine then_exit ?_
          refine blk_hit ?_
          refine then_normal ?_
          refine wp_seq ?_
          refine wpr ?_
          refine wpl rfl rfl ht (ev_move ht rfl rfl) ?_
          intro a ht
          refine wpl rfl rfl ht (ev_move ht rfl rfl) ?_
          intro a ht
          refine wpl_yes rfl ht rfl (rfl) ?_
          refine wpl rfl rfl ht (ev_move ht rfl rfl) ?_
          intro a ht
          refine wpl_yes rfl ht rfl (rfl) ?_
          refine wpl rfl rfl ht (ev_move ht rfl rfl) ?_
          intro a ht
          refine wpl_yes rfl ht rfl (rfl) ?_
          refine wpl rfl rfl ht (ev_move ht rfl rfl) ?_
          intro a ht
          refine wpl_yes rfl ht rfl (rfl) ?_
          refine wpl_build_ints (l := [xs0_1]) rfl rfl ht hm rfl und_43 zo_2 sz1_2 (by decide) rfl rfl rfl ?_
          intro A27015 a ht w hm
          refine wpl_yes rfl ht rfl (rfl) ?_
          obtain ⟨u27019, eu27019, H⟩ := bind_get H
          obtain ⟨l27020, el27020, H⟩ := bind_get H
          refine wpl_push_in (r := l27020) 3 0 rfl rfl ht hm rfl ap_43 rfl rfl rfl rfl (guardO_get eu27019) el27020 ?_
          intro a ht w hm
          refine wpl_yes rfl ht rfl (rfl) ?_
          refine wpl rfl rfl ht (ev_move ht rfl rfl) ?_
          intro a ht
          refine wpl_yes rfl ht rfl (rfl) ?_
          obtain ⟨t27021, et27021, H⟩ := bind_get H
          have hcall := ih q11 (by omega) _ _ b b2 A c m A2 (m2 + 1) t t2 t3 l27020 _ ((fun (hq : Ms _ _ _ ([.blk b 86 ([.pointer (some ⟨b2, 0, none⟩), .pointer (some ⟨b2, 0, none⟩), .slice A m c] ++ (gridC 289 t3)), .blk b2 27 (Col.cells t), .vec A2 17 2 1 (m2 + 1) (ints l27020)] ++ [.vec A27015 1 2 1 1 (ints ([xs0_1]))]) _ _) => hq.lend (φp := [IntsAt A c m t2]) (allRO_cons (hq.lendFact 0 rfl) (allRO_nil))) (hm.pick (own' := [.blk b 86 ([.pointer (some ⟨b2, 0, none⟩), .pointer (some ⟨b2, 0, none⟩), .slice A m c] ++ (gridC 289 t3)), .blk b2 27 (Col.cells t), .vec A2 17 2 1 (m2 + 1) (ints l27020)] ++ [.vec A27015 1 2 1 1 (ints ([xs0_1]))]) [1, 2, 3, 0] rfl (by decide))) et27021
          refine wpl_call _ rfl rfl ht rfl rfl rfl rfl can_49 hcall ?_
          clear hcall
          rintro _ w ⟨rfl, hpost⟩ a ht
          replace hm := (hm.pick (own' := [.blk b 86 ([.pointer (some ⟨b2, 0, none⟩), .pointer (some ⟨b2, 0, none⟩), .slice A m c] ++ (gridC 289 t3)), .blk b2 27 (Col.cells t), .vec A2 17 2 1 (m2 + 1) (ints l27020)] ++ [.vec A27015 1 2 1 1 (ints ([xs0_1]))]) [1, 2, 3, 0] rfl (by decide)).backL hpost
          clear hpost
          replace hm := hm.unpush (l := p) (m := m2) 2 rfl el27020
          refine wpl_yes rfl ht rfl (rfl) ?_
          refine wpl rfl rfl ht (ev_not ht rfl rfl) ?_
          intro a ht
          refine wpl rfl rfl ht (ev_pick_yes ht rfl rfl rfl rfl) ?_
          intro a ht
          refine wpList_nil ?_
          refine then_normal ?_
          by_cases h27022 : t27021 = true
          · replace H := ite_yes h27022 H
            refine wpc_no ht rfl (not_t h27022) ?_
            refine wp_skip ?_
            refine blk_normal ?_
            refine then_normal ?_
            refine wpr ?_
            refine wpl rfl rfl ht (ev_arith ht rfl rfl rfl rfl) ?_
            intro a ht
            refine wpl rfl rfl ht (ev_move ht rfl rfl) ?_
            intro a ht
            refine wpList_nil ?_
            exact then_normal ⟨q11, by omega, (w64 (xs0_1 + 1)), H, by omega, ht.sub ⟨rfl, rfl, rfl, rfl, rfl, rfl, rfl, trivial⟩, (hm.pick [0, 1, 2] rfl (by decide)).pickφ [0] rfl⟩
          · replace H := ite_no h27022 H
            refine wpc_yes ht rfl (not_f (Bool.eq_false_iff.mpr h27022)) ?_
            refine wp_seq ?_
            refine wpr ?_
            refine wpl rfl rfl ht (ev_assign ht rfl rfl) ?_
            intro a ht
            refine wpList_nil ?_
            refine then_normal ?_
            refine wp_ret ?_
            refine blk_ret ?_
            refine then_ret ?_
            refine then_ret ?_
            refine blk_ret ?_
            refine then_ret ?_
            have hres := ht.res (P := Try.prog) (w := w) (rs := [.tmp 6]) (vs := [.bool false]) (.tmp rfl .nil)
            obtain rfl := Option.some.inj H
            exact leave ht rfl hres ⟨rfl, ((hm.pick [0, 1, 2] rfl (by decide)).pickφ [] rfl).post fun _ h => h⟩
      · replace H := ite_no h10 H
        refine wpc_yes ht rfl (not_f (Bool.eq_false_iff.mpr h10)) ?_
        refine wp_exit ?_
        refine then_exit ?_
        refine blk_hit ?_
        refine then_normal ?_
        refine wpr ?_
        refine wpl rfl rfl ht (ev_arith ht rfl rfl rfl rfl) ?_
        intro a ht
        refine wpl rfl rfl ht (ev_move ht rfl rfl) ?_
        intro a ht
        refine wpList_nil ?_
        exact then_normal ⟨q6, by omega, (w64 (xs0_1 + 1)), H, by omega, ht.sub ⟨rfl, rfl, rfl, rfl, rfl, rfl, rfl, trivial⟩, (hm.pick [0, 1, 2] rfl (by decide)).pickφ [0] rfl⟩
    · replace H := ite_no h7 H
      refine wpc_no ht rfl (decide_eq_false h7) ?_
      refine wp_exit ?_
      refine then_exit ?_
      refine then_exit ?_
      refine blk_hit ?_
      refine then_normal ?_
      refine wp_seq ?_
      refine wpr ?_
      refine wpl rfl rfl ht (ev_assign ht rfl rfl) ?_
      intro a ht
      refine wpList_nil ?_
      refine then_normal ?_
      refine wp_ret ?_
      have hres := ht.res (P := Try.prog) (w := w) (rs := [.tmp 6]) (vs := [.bool true]) (.tmp rfl .nil)
      obtain rfl := Option.some.inj H
      exact leave ht rfl hres ⟨rfl, ((hm.pick [0, 1, 2] rfl (by decide)).pickφ [] rfl).post fun _ h => h⟩

end Go.Proofs.Ytbgniopmmankdaa.G
