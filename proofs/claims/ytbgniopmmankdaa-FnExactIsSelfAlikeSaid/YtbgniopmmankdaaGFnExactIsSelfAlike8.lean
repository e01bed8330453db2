/- What each Go function computes, as a Lean function, and the proof that it does: written by a program of this session (wip/gen), part 8. -/
import Derived.Test.YtbgniopmmankdaaGFnExactIsSelfAlike7
namespace Go.Proofs.Ytbgniopmmankdaa.G
open Go Go.RowKit Go.Proofs.Ytbgniopmmankdaa.K
set_option linter.unusedVariables false
set_option linter.unusedSimpArgs false

/-! ### impl_tracer_all__Colouring_renumbering_1: function 49 ((*loop.example/g01362/impl.tracer).all) -/
mutual
def impl_tracer_all__Colouring_renumbering_1.l0 : Nat → Col → Col → List Int → (Nat → Bool) → List Int → Int → List Int → Int → Option (Bool × List Int)
  | 0, _, _, _, _, _, _, _, _ => none
  | q10 + 1, t, t2, t3, t4, p, t9, ls0_4, xs0_5 => if xs0_5 < t2.p then ((guardO (0 ≤ t9 ∧ t9 < 17)).bind fun _ => (guardO (0 ≤ xs0_5 ∧ xs0_5 < 17)).bind fun _ => if (t4 (t9.toNat * 17 + xs0_5.toNat)) = true then (impl_tracer_all__Colouring_renumbering_1.l1 q10 t t2 t3 t4 p t9 ls0_4 xs0_5 0) else (impl_tracer_all__Colouring_renumbering_1.l0 q10 t t2 t3 t4 p t9 ls0_4 (w64 (xs0_5 + 1)))) else (some (true, ls0_4))
def impl_tracer_all__Colouring_renumbering_1.l1 : Nat → Col → Col → List Int → (Nat → Bool) → List Int → Int → List Int → Int → Int → Option (Bool × List Int)
  | 0, _, _, _, _, _, _, _, _, _ => none
  | q15 + 1, t, t2, t3, t4, p, t9, ls0_4, xs0_5, xs1_1 => if xs1_1 < (p.length : Int) then ((getI p xs1_1).bind fun t17 => if t17 = xs0_5 then (impl_tracer_all__Colouring_renumbering_1.l0 q15 t t2 t3 t4 p t9 ls0_4 (w64 (xs0_5 + 1))) else ((getI t3 xs1_1).bind fun t13518 => (impl_Colouring_at.f t t13518 t9).bind fun t16518 => (impl_Colouring_at.f t2 t17 xs0_5).bind fun t23518 => if t16518 ≠ t23518 then (impl_tracer_all__Colouring_renumbering_1.l0 q15 t t2 t3 t4 p t9 ls0_4 (w64 (xs0_5 + 1))) else (impl_tracer_all__Colouring_renumbering_1.l1 q15 t t2 t3 t4 p t9 ls0_4 xs0_5 (w64 (xs1_1 + 1))))) else ((guardO (p.length < 17)).bind fun _ => (push p xs0_5).bind fun l27024 => (impl_tracer_all__Colouring_renumbering_1.f q15 t t2 t3 t4 l27024 ls0_4).bind fun t27025 => if t27025.1 = true then (impl_tracer_all__Colouring_renumbering_1.l0 q15 t t2 t3 t4 p t9 t27025.2 (w64 (xs0_5 + 1))) else (some (false, t27025.2)))
def impl_tracer_all__Colouring_renumbering_1.f : Nat → Col → Col → List Int → (Nat → Bool) → List Int → List Int → Option (Bool × List Int)
  | 0, _, _, _, _, _, _ => none
  | k + 1, t, t2, t3, t4, p, with_ => if (p.length : Int) = (t3.length : Int) then ((impl_Colouring_renumbering_1.f p with_).bind fun t5 => some (t5.1, t5.2)) else ((getI t3 (p.length : Int)).bind fun t9 => impl_tracer_all__Colouring_renumbering_1.l0 k t t2 t3 t4 p t9 with_ 0)
end
set_option maxRecDepth 100000 in
set_option maxHeartbeats 20000000 in
theorem impl_tracer_all__Colouring_renumbering_1.calls (k : Nat) (X : List Nat) (w0 : World) (b : Nat) (b2 : Nat) (b3 : Nat) (A : Option Addr) (c : Nat) (m : Nat) (A2 : Option Addr) (m2 : Nat) (b4 : Nat) (A3 : Option Addr) (c2 : Nat) (m3 : Nat) (t : Col) (t2 : Col) (t3 : List Int) (t4 : Nat → Bool) (p : List Int) (with_ : List Int) (r : Bool × List Int)
    (hp : Pre X w0 [.blk b 86 ([.pointer (some ⟨b2, 0, none⟩), .pointer (some ⟨b3, 0, none⟩), .slice A m c] ++ (gridC 289 t4)), .blk b2 27 (Col.cells t), .blk b3 27 (Col.cells t2), .vec A2 17 2 1 m2 (ints p), .blk b4 43 [.slice A3 m3 c2], .vec A3 c2 2 1 m3 (ints with_)] [IntsAt A c m t3]) (H : impl_tracer_all__Colouring_renumbering_1.f k t t2 t3 t4 p with_ = some r) :
    Calls Try.prog 49 [.pointer (some ⟨b, 0, none⟩), .slice A2 m2 17, .func (.func 78) [].toArray [.pointer (some ⟨b4, 0, none⟩)].toArray].toArray w0 (Ret fun v w => ∃ (B_4_0 : Option Addr) (d_4_0 : Nat) (m_4_0 : Nat), v = .bool r.1 ∧ Post X (fps [.blk b 86 ([.pointer (some ⟨b2, 0, none⟩), .pointer (some ⟨b3, 0, none⟩), .slice A m c] ++ (gridC 289 t4)), .blk b2 27 (Col.cells t), .blk b3 27 (Col.cells t2), .vec A2 17 2 1 m2 (ints p), .blk b4 43 [.slice A3 m3 c2], .vec A3 c2 2 1 m3 (ints with_)]) w0 [.blk b 86 ([.pointer (some ⟨b2, 0, none⟩), .pointer (some ⟨b3, 0, none⟩), .slice A m c] ++ (gridC 289 t4)), .blk b2 27 (Col.cells t), .blk b3 27 (Col.cells t2), .vec A2 17 2 1 m2 (ints p), .vec B_4_0 d_4_0 2 1 m_4_0 (ints r.2), .blk b4 43 [.slice B_4_0 m_4_0 d_4_0]] [] w) := by
  induction k using Nat.strongRecOn generalizing X w0 b b2 b3 A c m A2 m2 b4 A3 c2 m3 t t2 t3 t4 p with_ r with
  | _ k ih =>
  cases k with
  | zero => cases H
  | succ k =>
  rw [impl_tracer_all__Colouring_renumbering_1.f] at H
  refine enterM (n := 97) hp Try.func49 rfl rfl (Nat.le_of_ble_eq_true rfl) fun a w ht hm => ?_
  induction k using Nat.strongRecOn with
  | _ k ih =>
  refine wp_seq ?_
  refine wpr ?_
  refine wpl rfl rfl ht (ev_assign ht rfl rfl) ?_
  intro a ht
  refine wpList_nil ?_
  refine then_normal ?_
  refine wp_seq ?_
  refine wpr ?_
  refine wpl rfl rfl ht (ev_move ht rfl rfl) ?_
  intro a ht
  refine wpl rfl rfl ht (ev_len_of ht rfl rfl und_43 (hm.vec_row 3 rfl)) ?_
  intro a ht
  refine wpl rfl rfl ht (ev_assign ht rfl rfl) ?_
  intro a ht
  refine wpList_nil ?_
  refine then_normal ?_
  refine wp_seq ?_
  refine wp_seq ?_
  refine wpr ?_
  refine wpl rfl rfl ht (ev_move ht rfl rfl) ?_
  intro a ht
  refine wpl rfl rfl ht (ev_move ht rfl rfl) ?_
  intro a ht
  refine wpl rfl rfl ht (ev_nilCheck ht rfl rfl) ?_
  intro a ht
  refine wpl rfl rfl ht (ev_fieldAddr ht rfl rfl fo_86_2) ?_
  intro a ht
  refine wpl rfl rfl ht (ev_load ht rfl rfl sc_43 (hm.blk_cell 0 rfl rfl)) ?_
  intro a ht
  refine wpl rfl rfl ht (ev_len_of ht rfl rfl und_43 (hm.fact (φ := IntsAt A c m t3) 0 rfl)) ?_
  intro a ht
  refine wpl rfl rfl ht (ev_cmp ht rfl rfl rfl rfl) ?_
  intro a ht
  refine wpList_nil ?_
  refine then_normal ?_
  by_cases h1 : (p.length : Int) = (t3.length : Int)
  · replace H := ite_yes h1 H
    refine wpc_yes ht rfl (decide_eq_true h1) ?_
    refine wp_seq ?_
    refine wpr ?_
    refine wpl rfl rfl ht (ev_move ht rfl rfl) ?_
    intro a ht
    refine wpl rfl rfl ht (ev_move ht rfl rfl) ?_
    intro a ht
    obtain ⟨t5, et5, H⟩ := bind_get H
    have hcall := impl_Colouring_renumbering_1.calls _ _ A2 17 m2 b4 A3 c2 m3 p with_ _ ((fun (hq : Ms _ _ _ ([.blk b4 43 [.slice A3 m3 c2], .vec A3 c2 2 1 m3 (ints with_)] ++ [.blk b 86 ([.pointer (some ⟨b2, 0, none⟩), .pointer (some ⟨b3, 0, none⟩), .slice A m c] ++ (gridC 289 t4)), .blk b2 27 (Col.cells t), .blk b3 27 (Col.cells t2), .vec A2 17 2 1 m2 (ints p)]) _ _) => hq.lend (φp := [IntsAt A2 17 m2 p]) (allRO_cons (hq.lendVec 3 rfl) (allRO_nil))) (hm.pick (own' := [.blk b4 43 [.slice A3 m3 c2], .vec A3 c2 2 1 m3 (ints with_)] ++ [.blk b 86 ([.pointer (some ⟨b2, 0, none⟩), .pointer (some ⟨b3, 0, none⟩), .slice A m c] ++ (gridC 289 t4)), .blk b2 27 (Col.cells t), .blk b3 27 (Col.cells t2), .vec A2 17 2 1 m2 (ints p)]) [4, 5, 0, 1, 2, 3] rfl (by decide))) et5
    refine wpl_call _ rfl rfl ht rfl rfl rfl rfl can_78 hcall ?_
    clear hcall
    rintro _ w ⟨A6, c7, m8, rfl, hpost⟩ a ht
    replace hm := (hm.pick (own' := [.blk b4 43 [.slice A3 m3 c2], .vec A3 c2 2 1 m3 (ints with_)] ++ [.blk b 86 ([.pointer (some ⟨b2, 0, none⟩), .pointer (some ⟨b3, 0, none⟩), .slice A m c] ++ (gridC 289 t4)), .blk b2 27 (Col.cells t), .blk b3 27 (Col.cells t2), .vec A2 17 2 1 m2 (ints p)]) [4, 5, 0, 1, 2, 3] rfl (by decide)).backL hpost
    clear hpost
    refine wpl rfl rfl ht (ev_assign ht rfl rfl) ?_
    intro a ht
    refine wpList_nil ?_
    refine then_normal ?_
    refine wp_ret ?_
    refine then_ret ?_
    have hres := ht.res (P := Try.prog) (w := w) (rs := [.tmp 6]) (vs := [.bool t5.1]) (.tmp rfl .nil)
    obtain rfl := Option.some.inj H
    exact leave ht rfl hres ⟨A6, c7, m8, rfl, ((hm.pick [2, 3, 4, 5, 0, 1] rfl (by decide)).pickφ [] rfl).post fun _ h => h⟩
  · replace H := ite_no h1 H
    refine wpc_no ht rfl (decide_eq_false h1) ?_
    refine wp_skip ?_
    refine then_normal ?_
    refine wp_seq ?_
    refine wpr ?_
    refine wpl rfl rfl ht (ev_move ht rfl rfl) ?_
    intro a ht
    refine wpl rfl rfl ht (ev_nilCheck ht rfl rfl) ?_
    intro a ht
    refine wpl rfl rfl ht (ev_fieldAddr ht rfl rfl fo_86_2) ?_
    intro a ht
    refine wpl rfl rfl ht (ev_load ht rfl rfl sc_43 (hm.blk_cell 0 rfl rfl)) ?_
    intro a ht
    refine wpl rfl rfl ht (ev_move ht rfl rfl) ?_
    intro a ht
    obtain ⟨t9, et9, H⟩ := bind_get H
    refine wpl rfl rfl ht (ev_index_ints ht rfl rfl rfl so_43 (hm.fact (φ := IntsAt A c m t3) 0 rfl) et9) ?_
    intro a ht
    refine wpl rfl rfl ht (ev_load ht rfl rfl sc_2 (RowAt.cell (hm.fact (φ := IntsAt A c m t3) 0 rfl) (ints_get et9) rfl)) ?_
    intro a ht
    refine wpl rfl rfl ht (ev_assign ht rfl rfl) ?_
    intro a ht
    refine wpList_nil ?_
    refine then_normal ?_
    refine wp_seq ?_
    refine wp_seq ?_
    refine wpr ?_
    refine wpl rfl rfl ht (ev_move ht rfl rfl) ?_
    intro a ht
    refine wpl rfl rfl ht (ev_nilCheck ht rfl rfl) ?_
    intro a ht
    refine wpl rfl rfl ht (ev_fieldAddr ht rfl rfl fo_86_1) ?_
    intro a ht
    refine wpl rfl rfl ht (ev_load ht rfl rfl sc_50 (hm.blk_cell 0 rfl rfl)) ?_
    intro a ht
    refine wpl rfl rfl ht (ev_nilCheck ht rfl rfl) ?_
    intro a ht
    refine wpl rfl rfl ht (ev_fieldAddr ht rfl rfl fo_27_0) ?_
    intro a ht
    refine wpl rfl rfl ht (ev_load ht rfl rfl sc_2 (hm.blk_cell 2 rfl rfl)) ?_
    intro a ht
    refine wpl rfl rfl ht (ev_move ht rfl rfl) ?_
    intro a ht
    refine wpList_nil ?_
    refine then_normal ?_
    refine wp_block ?_
    refine wpLoop (fun q a w => ∃ (ls0_4 : List Int) (xs0_5 : Int) (As0_1 : Option Addr) (cs0_2 : Nat) (ms0_3 : Nat), impl_tracer_all__Colouring_renumbering_1.l0 q t t2 t3 t4 p t9 ls0_4 xs0_5 = some r ∧ q ≤ k ∧ Tm 97 [(0, .pointer (some ⟨b, 0, none⟩)), (1, .slice A2 m2 17), (2, .func (.func 78) [].toArray [.pointer (some ⟨b4, 0, none⟩)].toArray), (6, .bool false), (8, .int .i64 t9), (38, .int .i64 t2.p), (39, .int .i64 xs0_5)] a ∧ Ms X (fps [.blk b 86 ([.pointer (some ⟨b2, 0, none⟩), .pointer (some ⟨b3, 0, none⟩), .slice A m c] ++ (gridC 289 t4)), .blk b2 27 (Col.cells t), .blk b3 27 (Col.cells t2), .vec A2 17 2 1 m2 (ints p), .blk b4 43 [.slice A3 m3 c2], .vec A3 c2 2 1 m3 (ints with_)]) w0 [.blk b 86 ([.pointer (some ⟨b2, 0, none⟩), .pointer (some ⟨b3, 0, none⟩), .slice A m c] ++ (gridC 289 t4)), .blk b2 27 (Col.cells t), .blk b3 27 (Col.cells t2), .vec A2 17 2 1 m2 (ints p), .blk b4 43 [.slice As0_1 ms0_3 cs0_2], .vec As0_1 cs0_2 2 1 ms0_3 (ints ls0_4)] [IntsAt A c m t3] w) (k0 := k) ⟨with_, 0, A3, c2, m3, H, Nat.le_refl _, ht.sub ⟨rfl, rfl, rfl, rfl, rfl, rfl, rfl, trivial⟩, (hm.pick [0, 1, 2, 3, 4, 5] rfl (by decide)).pickφ [0] rfl⟩ ?_
    clear H ht hm
    intro q10 a w hJ
    obtain ⟨ls0_4, xs0_5, As0_1, cs0_2, ms0_3, H, hqq10, ht, hm⟩ := hJ
    cases q10 with
    | zero => cases H
    | succ q10 =>
    rw [impl_tracer_all__Colouring_renumbering_1.l0] at H
    refine wp_seq ?_
    refine wpr ?_
    refine wpl rfl rfl ht (ev_cmp ht rfl rfl rfl rfl) ?_
    intro a ht
    refine wpList_nil ?_
    refine then_normal ?_
    refine wp_seq ?_
    by_cases h11 : xs0_5 < t2.p
    · replace H := ite_yes h11 H
      refine wpc_yes ht rfl (decide_eq_true h11) ?_
      refine wp_skip ?_
      refine then_normal ?_
      refine wp_seq ?_
      refine wp_block ?_
      refine wp_seq ?_
      refine wpr ?_
      refine wpl rfl rfl ht (ev_move ht rfl rfl) ?_
      intro a ht
      refine wpl rfl rfl ht (ev_assign ht rfl rfl) ?_
      intro a ht
      refine wpList_nil ?_
      refine then_normal ?_
      refine wp_seq ?_
      refine wp_seq ?_
      refine wpr ?_
      refine wpl rfl rfl ht (ev_move ht rfl rfl) ?_
      intro a ht
      refine wpl rfl rfl ht (ev_move ht rfl rfl) ?_
      intro a ht
      refine wpl rfl rfl ht (ev_move ht rfl rfl) ?_
      intro a ht
      refine wpl rfl rfl ht (ev_nilCheck ht rfl rfl) ?_
      intro a ht
      refine wpl rfl rfl ht (ev_fieldAddr ht rfl rfl fo_86_3) ?_
      intro a ht
      obtain ⟨u12, eu12, H⟩ := bind_get H
      refine wpl rfl rfl ht (ev_indexAddr_arr ht rfl rfl rfl ar_84 (guardO_get eu12).1 (by have := (guardO_get eu12); omega)) ?_
      intro a ht
      obtain ⟨u13, eu13, H⟩ := bind_get H
      refine wpl rfl rfl ht (ev_indexAddr_arr ht rfl rfl rfl ar_83 (guardO_get eu13).1 (by have := (guardO_get eu13); omega)) ?_
      intro a ht
      refine wpl rfl rfl ht (ev_load ht rfl rfl sc_4 (hm.blk_cell 0 rfl (grid_get (guardO_get eu12) (guardO_get eu13)))) ?_
      intro a ht
      refine wpl rfl rfl ht (ev_not ht rfl rfl) ?_
      intro a ht
      refine wpList_nil ?_
      refine then_normal ?_
      by_cases h14 : (t4 (t9.toNat * 17 + xs0_5.toNat)) = true
      · replace H := ite_yes h14 H
        refine wpc_no ht rfl (not_t h14) ?_
        refine wp_skip ?_
        refine then_normal ?_
        refine wp_seq ?_
        refine wpr ?_
        refine wpl rfl rfl ht (ev_assign ht rfl rfl) ?_
        intro a ht
        refine wpList_nil ?_
        refine then_normal ?_
        refine wp_seq ?_
        refine wp_seq ?_
        refine wpr ?_
        refine wpl rfl rfl ht (ev_move ht rfl rfl) ?_
        intro a ht
        refine wpl rfl rfl ht (ev_len_of ht rfl rfl und_43 (hm.vec_row 3 rfl)) ?_
        intro a ht
        refine wpl rfl rfl ht (ev_move ht rfl rfl) ?_
        intro a ht
        refine wpList_nil ?_
        refine then_normal ?_
        refine wp_block ?_
        refine wpLoop (fun q a w => ∃ (xs1_1 : Int), impl_tracer_all__Colouring_renumbering_1.l1 q t t2 t3 t4 p t9 ls0_4 xs0_5 xs1_1 = some r ∧ q ≤ q10 ∧ Tm 97 [(0, .pointer (some ⟨b, 0, none⟩)), (1, .slice A2 m2 17), (2, .func (.func 78) [].toArray [.pointer (some ⟨b4, 0, none⟩)].toArray), (6, .bool false), (8, .int .i64 t9), (9, .int .i64 xs0_5), (10, .bool true), (38, .int .i64 t2.p), (39, .int .i64 xs0_5), (40, .bool (decide (xs0_5 < t2.p))), (41, .int .i64 xs0_5), (42, .pointer (some ⟨b, 0, none⟩)), (43, .int .i64 t9), (44, .int .i64 xs0_5), (45, .pointer (some ⟨b, 0, none⟩)), (46, .pointer (some ⟨b, 0 + 3, none⟩)), (47, .pointer (some ⟨b, 0 + 3 + t9.toNat * 17, none⟩)), (48, .pointer (some ⟨b, 0 + 3 + t9.toNat * 17 + xs0_5.toNat * 1, none⟩)), (49, .bool (t4 (t9.toNat * 17 + xs0_5.toNat))), (50, .bool (!(t4 (t9.toNat * 17 + xs0_5.toNat)))), (51, .slice A2 m2 17), (52, .int .i64 (p.length : Int)), (53, .int .i64 xs1_1)] a ∧ Ms X (fps [.blk b 86 ([.pointer (some ⟨b2, 0, none⟩), .pointer (some ⟨b3, 0, none⟩), .slice A m c] ++ (gridC 289 t4)), .blk b2 27 (Col.cells t), .blk b3 27 (Col.cells t2), .vec A2 17 2 1 m2 (ints p), .blk b4 43 [.slice A3 m3 c2], .vec A3 c2 2 1 m3 (ints with_)]) w0 [.blk b 86 ([.pointer (some ⟨b2, 0, none⟩), .pointer (some ⟨b3, 0, none⟩), .slice A m c] ++ (gridC 289 t4)), .blk b2 27 (Col.cells t), .blk b3 27 (Col.cells t2), .vec A2 17 2 1 m2 (ints p), .blk b4 43 [.slice As0_1 ms0_3 cs0_2], .vec As0_1 cs0_2 2 1 ms0_3 (ints ls0_4)] [IntsAt A c m t3] w) (k0 := q10) ⟨0, H, Nat.le_refl _, ht.sub ⟨rfl, rfl, rfl, rfl, rfl, rfl, rfl, rfl, rfl, rfl, rfl, rfl, rfl, rfl, rfl, rfl, rfl, rfl, rfl, rfl, rfl, rfl, rfl, trivial⟩, (hm.pick [0, 1, 2, 3, 4, 5] rfl (by decide)).pickφ [0] rfl⟩ ?_
        clear H ht hm
        intro q15 a w hJ
        obtain ⟨xs1_1, H, hqq15, ht, hm⟩ := hJ
        cases q15 with
        | zero => cases H
        | succ q15 =>
        rw [impl_tracer_all__Colouring_renumbering_1.l1] at H
        refine wp_seq ?_
        refine wpr ?_
        refine wpl rfl rfl ht (ev_cmp ht rfl rfl rfl rfl) ?_
        intro a ht
        refine wpList_nil ?_
        refine then_normal ?_
        refine wp_seq ?_
        by_cases h16 : xs1_1 < (p.length : Int)
        · replace H := ite_yes h16 H
          refine wpc_yes ht rfl (decide_eq_true h16) ?_
          refine wp_skip ?_
          refine then_normal ?_
          refine wp_seq ?_
          refine wp_block ?_
          refine wp_seq ?_
          refine wpr ?_
          refine wpl rfl rfl ht (ev_move ht rfl rfl) ?_
          intro a ht
          obtain ⟨t17, et17, H⟩ := bind_get H
          refine wpl rfl rfl ht (ev_index_ints ht rfl rfl rfl so_43 (hm.vec_row 3 rfl) et17) ?_
          intro a ht
          refine wpl rfl rfl ht (ev_load ht rfl rfl sc_2 (RowAt.cell (hm.vec_row 3 rfl) (ints_get et17) rfl)) ?_
          intro a ht
          refine wpl rfl rfl ht (ev_assign ht rfl rfl) ?_
          intro a ht
          refine wpl rfl rfl ht (ev_assign ht rfl rfl) ?_
          intro a ht
          refine wpList_nil ?_
          refine then_normal ?_
          refine wp_seq ?_
          refine wph_begin (fun w => Ms X (fps [.blk b 86 ([.pointer (some ⟨b2, 0, none⟩), .pointer (some ⟨b3, 0, none⟩), .slice A m c] ++ (gridC 289 t4)), .blk b2 27 (Col.cells t), .blk b3 27 (Col.cells t2), .vec A2 17 2 1 m2 (ints p), .blk b4 43 [.slice A3 m3 c2], .vec A3 c2 2 1 m3 (ints with_)]) w0 [.blk b 86 ([.pointer (some ⟨b2, 0, none⟩), .pointer (some ⟨b3, 0, none⟩), .slice A m c] ++ (gridC 289 t4)), .blk b2 27 (Col.cells t), .blk b3 27 (Col.cells t2), .vec A2 17 2 1 m2 (ints p), .blk b4 43 [.slice As0_1 ms0_3 cs0_2], .vec As0_1 cs0_2 2 1 ms0_3 (ints ls0_4)] [IntsAt A c m t3] w) mixed ?_
          replace hm := hm.drew
          have hS : Ms X (fps [.blk b 86 ([.pointer (some ⟨b2, 0, none⟩), .pointer (some ⟨b3, 0, none⟩), .slice A m c] ++ (gridC 289 t4)), .blk b2 27 (Col.cells t), .blk b3 27 (Col.cells t2), .vec A2 17 2 1 m2 (ints p), .blk b4 43 [.slice A3 m3 c2], .vec A3 c2 2 1 m3 (ints with_)]) w0 [.blk b 86 ([.pointer (some ⟨b2, 0, none⟩), .pointer (some ⟨b3, 0, none⟩), .slice A m c] ++ (gridC 289 t4)), .blk b2 27 (Col.cells t), .blk b3 27 (Col.cells t2), .vec A2 17 2 1 m2 (ints p), .blk b4 43 [.slice As0_1 ms0_3 cs0_2], .vec As0_1 cs0_2 2 1 ms0_3 (ints ls0_4)] [IntsAt A c m t3] w.drew := (hm.pick [0, 1, 2, 3, 4, 5] rfl (by decide)).pickφ [0] rfl
          generalize w.drew = w at hm hS ⊢
          refine wph_take (i := 0) rfl (by kernel_rfl) (by kernel_rfl) (by kernel_rfl) (fun _ _ _ h => h) rfl ht hS (wanted_plain rfl) (fun w hm => ev_move ht rfl rfl) ?_
          intro a ht
          refine wph_take (i := 1) rfl (by kernel_rfl) (by kernel_rfl) (by kernel_rfl) (fun _ _ _ h => h) rfl ht hS (wanted_plain rfl) (fun w hm => ev_move ht rfl rfl) ?_
          intro a ht
          refine wph_take (i := 2) rfl (by kernel_rfl) (by kernel_rfl) (by kernel_rfl) (fun _ _ _ h => h) rfl ht hS (wanted_plain rfl) (fun w hm => ev_cmp ht rfl rfl rfl rfl) ?_
          intro a ht
          refine wph_take (i := 3) rfl (by kernel_rfl) (by kernel_rfl) (by kernel_rfl) (fun _ _ _ h => h) rfl ht hS (wanted_plain rfl) (fun w hm => ev_move ht rfl rfl) ?_
          intro a ht
          by_cases h3518 : t17 = xs0_5
          · replace H := ite_yes h3518 H
            refine wph_pass (i := 4) rfl (by kernel_rfl) (by kernel_rfl) (by kernel_rfl) (fun _ _ _ h => h) rfl ht hS (wanted_no rfl ht rfl (by rw [(decide_eq_true h3518)]; decide)) ?_
            intro a ht
            refine wph_pass (i := 5) rfl (by kernel_rfl) (by kernel_rfl) (by kernel_rfl) (fun _ _ _ h => h) rfl ht hS (wanted_no rfl ht rfl (by rw [(decide_eq_true h3518)]; decide)) ?_
            intro a ht
            refine wph_pass (i := 6) rfl (by kernel_rfl) (by kernel_rfl) (by kernel_rfl) (fun _ _ _ h => h) rfl ht hS (wanted_no rfl ht rfl (by rw [(decide_eq_true h3518)]; decide)) ?_
            intro a ht
            refine wph_pass (i := 7) rfl (by kernel_rfl) (by kernel_rfl) (by kernel_rfl) (fun _ _ _ h => h) rfl ht hS (wanted_no rfl ht rfl (by rw [(decide_eq_true h3518)]; decide)) ?_
            intro a ht
            refine wph_pass (i := 8) rfl (by kernel_rfl) (by kernel_rfl) (by kernel_rfl) (fun _ _ _ h => h) rfl ht hS (wanted_no rfl ht rfl (by rw [(decide_eq_true h3518)]; decide)) ?_
            intro a ht
            refine wph_pass (i := 9) rfl (by kernel_rfl) (by kernel_rfl) (by kernel_rfl) (fun _ _ _ h => h) rfl ht hS (wanted_no rfl ht rfl (by rw [(decide_eq_true h3518)]; decide)) ?_
            intro a ht
            refine wph_pass (i := 10) rfl (by kernel_rfl) (by kernel_rfl) (by kernel_rfl) (fun _ _ _ h => h) rfl ht hS (wanted_no rfl ht rfl (by rw [(decide_eq_true h3518)]; decide)) ?_
            intro a ht
            refine wph_pass (i := 11) rfl (by kernel_rfl) (by kernel_rfl) (by kernel_rfl) (fun _ _ _ h => h) rfl ht hS (wanted_no rfl ht rfl (by rw [(decide_eq_true h3518)]; decide)) ?_
            intro a ht
            refine wph_pass (i := 12) rfl (by kernel_rfl) (by kernel_rfl) (by kernel_rfl) (fun _ _ _ h => h) rfl ht hS (wanted_no rfl ht rfl (by rw [(decide_eq_true h3518)]; decide)) ?_
            intro a ht
            refine wph_pass (i := 13) rfl (by kernel_rfl) (by kernel_rfl) (by kernel_rfl) (fun _ _ _ h => h) rfl ht hS (wanted_no rfl ht rfl (by rw [(decide_eq_true h3518)]; decide)) ?_
            intro a ht
            refine wph_pass (i := 14) rfl (by kernel_rfl) (by kernel_rfl) (by kernel_rfl) (fun _ _ _ h => h) rfl ht hS (wanted_no rfl ht rfl (by rw [(decide_eq_true h3518)]; decide)) ?_
            intro a ht
            refine wph_pass (i := 15) rfl (by kernel_rfl) (by kernel_rfl) (by kernel_rfl) (fun _ _ _ h => h) rfl ht hS (wanted_no rfl ht rfl (by rw [(decide_eq_true h3518)]; decide)) ?_
            intro a ht
            refine wph_pass (i := 16) rfl (by kernel_rfl) (by kernel_rfl) (by kernel_rfl) (fun _ _ _ h => h) rfl ht hS (wanted_no rfl ht rfl (by rw [(decide_eq_true h3518)]; decide)) ?_
            intro a ht
            refine wph_pass (i := 17) rfl (by kernel_rfl) (by kernel_rfl) (by kernel_rfl) (fun _ _ _ h => h) rfl ht hS (wanted_no rfl ht rfl (by rw [(decide_eq_true h3518)]; decide)) ?_
            intro a ht
            refine wph_pass (i := 18) rfl (by kernel_rfl) (by kernel_rfl) (by kernel_rfl) (fun _ _ _ h => h) rfl ht hS (wanted_no rfl ht rfl (by rw [(decide_eq_true h3518)]; decide)) ?_
            intro a ht
            refine wph_pass (i := 19) rfl (by kernel_rfl) (by kernel_rfl) (by kernel_rfl) (fun _ _ _ h => h) rfl ht hS (wanted_no rfl ht rfl (by rw [(decide_eq_true h3518)]; decide)) ?_
            intro a ht
            refine wph_pass (i := 20) rfl (by kernel_rfl) (by kernel_rfl) (by kernel_rfl) (fun _ _ _ h => h) rfl ht hS (wanted_no rfl ht rfl (by rw [(decide_eq_true h3518)]; decide)) ?_
            intro a ht
            refine wph_pass (i := 21) rfl (by kernel_rfl) (by kernel_rfl) (by kernel_rfl) (fun _ _ _ h => h) rfl ht hS (wanted_no rfl ht rfl (by rw [(decide_eq_true h3518)]; decide)) ?_
            intro a ht
            refine wph_pass (i := 22) rfl (by kernel_rfl) (by kernel_rfl) (by kernel_rfl) (fun _ _ _ h => h) rfl ht hS (wanted_no rfl ht rfl (by rw [(decide_eq_true h3518)]; decide)) ?_
            intro a ht
            refine wph_pass (i := 23) rfl (by kernel_rfl) (by kernel_rfl) (by kernel_rfl) (fun _ _ _ h => h) rfl ht hS (wanted_no rfl ht rfl (by rw [(decide_eq_true h3518)]; decide)) ?_
            intro a ht
            refine wph_pass (i := 24) rfl (by kernel_rfl) (by kernel_rfl) (by kernel_rfl) (fun _ _ _ h => h) rfl ht hS (wanted_no rfl ht rfl (by rw [(decide_eq_true h3518)]; decide)) ?_
            intro a ht
            refine wph_take (i := 25) rfl (by kernel_rfl) (by kernel_rfl) (by kernel_rfl) (fun _ _ _ h => h) rfl ht hS (wanted_plain rfl) (fun w hm => ev_pick_yes ht rfl rfl (decide_eq_true h3518) rfl) ?_
            intro a ht
            refine wph_done (by kernel_rfl) ?_
            refine then_normal ?_
            refine wpc_yes ht rfl rfl ?_
            refine wp_seq ?_
            refine wpr ?_
            refine wpl rfl rfl ht (ev_assign ht rfl rfl) ?_
            intro a ht
            refine wpList_nil ?_
            refine then_normal ?_
            refine wp_exit ?_
            refine blk_miss (by decide) ?_
            refine then_exit ?_
            refine then_exit ?_
            refine blk_hit ?_
            refine then_normal ?_
            refine wp_seq ?_
            refine wpr ?_
            refine wpl rfl rfl ht (ev_move ht rfl rfl) ?_
            intro a ht
            refine wpl rfl rfl ht (ev_move ht rfl rfl) ?_
            intro a ht
            refine wpl_no rfl rfl ht rfl (by decide) ?_
            intro a ht
            refine wpl_no rfl rfl ht rfl (by decide) ?_
            intro a ht
            refine wpl_no rfl rfl ht rfl (by decide) ?_
            intro a ht
            refine wpl_no rfl rfl ht rfl (by decide) ?_
            intro a ht
            refine wpl_no rfl rfl ht rfl (by decide) ?_
            intro a ht
            refine wpl_no rfl rfl ht rfl (by decide) ?_
            intro a ht
            refine wpl_no rfl rfl ht rfl (by decide) ?_
            intro a ht
            refine wpl_no rfl rfl ht rfl (by decide) ?_
            intro a ht
            refine wpl rfl rfl ht (ev_pick_no ht rfl rfl rfl rfl) ?_
            intro a ht
            refine wpList_nil ?_
            refine then_normal ?_
            refine wpc_no ht rfl rfl ?_
            refine wp_skip ?_
            refine blk_normal ?_
            refine then_normal ?_
            refine wpr ?_
            refine wpl rfl rfl ht (ev_arith ht rfl rfl rfl rfl) ?_
            intro a ht
            refine wpl rfl rfl ht (ev_move ht rfl rfl) ?_
            intro a ht
            refine wpList_nil ?_
            exact then_normal ⟨q15, by omega, ls0_4, (w64 (xs0_5 + 1)), As0_1, cs0_2, ms0_3, H, by omega, ht.sub ⟨rfl, rfl, rfl, rfl, rfl, rfl, rfl, trivial⟩, (hm.pick [0, 1, 2, 3, 4, 5] rfl (by decide)).pickφ [0] rfl⟩
          · replace H := ite_no h3518 H
            refine wph_take (i := 4) rfl (by kernel_rfl) (by kernel_rfl) (by kernel_rfl) (fun _ _ _ h => h) rfl ht hS (wanted_yes rfl ht rfl ((decide_eq_false h3518))) (fun w hm => ev_move ht rfl rfl) ?_
            intro a ht
            refine wph_take (i := 5) rfl (by kernel_rfl) (by kernel_rfl) (by kernel_rfl) (fun _ _ _ h => h) rfl ht hS (wanted_yes rfl ht rfl ((decide_eq_false h3518))) (fun w hm => ev_nilCheck ht rfl rfl) ?_
            intro a ht
            refine wph_take (i := 6) rfl (by kernel_rfl) (by kernel_rfl) (by kernel_rfl) (fun _ _ _ h => h) rfl ht hS (wanted_yes rfl ht rfl ((decide_eq_false h3518))) (fun w hm => ev_fieldAddr ht rfl rfl fo_86_0) ?_
            intro a ht
            refine wph_take (i := 7) rfl (by kernel_rfl) (by kernel_rfl) (by kernel_rfl) (fun _ _ _ h => h) rfl ht hS (wanted_yes rfl ht rfl ((decide_eq_false h3518))) (fun w hm => ev_load ht rfl rfl sc_50 (hm.blk_cell 0 rfl rfl)) ?_
            intro a ht
            refine wph_take (i := 8) rfl (by kernel_rfl) (by kernel_rfl) (by kernel_rfl) (fun _ _ _ h => h) rfl ht hS (wanted_yes rfl ht rfl ((decide_eq_false h3518))) (fun w hm => ev_move ht rfl rfl) ?_
            intro a ht
            refine wph_take (i := 9) rfl (by kernel_rfl) (by kernel_rfl) (by kernel_rfl) (fun _ _ _ h => h) rfl ht hS (wanted_yes rfl ht rfl ((decide_eq_false h3518))) (fun w hm => ev_nilCheck ht rfl rfl) ?_
            intro a ht
            refine wph_take (i := 10) rfl (by kernel_rfl) (by kernel_rfl) (by kernel_rfl) (fun _ _ _ h => h) rfl ht hS (wanted_yes rfl ht rfl ((decide_eq_false h3518))) (fun w hm => ev_fieldAddr ht rfl rfl fo_86_2) ?_
            intro a ht
            refine wph_take (i := 11) rfl (by kernel_rfl) (by kernel_rfl) (by kernel_rfl) (fun _ _ _ h => h) rfl ht hS (wanted_yes rfl ht rfl ((decide_eq_false h3518))) (fun w hm => ev_load ht rfl rfl sc_43 (hm.blk_cell 0 rfl rfl)) ?_
            intro a ht
            refine wph_take (i := 12) rfl (by kernel_rfl) (by kernel_rfl) (by kernel_rfl) (fun _ _ _ h => h) rfl ht hS (wanted_yes rfl ht rfl ((decide_eq_false h3518))) (fun w hm => ev_move ht rfl rfl) ?_
            intro a ht
            obtain ⟨t13518, et13518, H⟩ := bind_get H
            refine wph_take (i := 13) rfl (by kernel_rfl) (by kernel_rfl) (by kernel_rfl) (fun _ _ _ h => h) rfl ht hS (wanted_yes rfl ht rfl ((decide_eq_false h3518))) (fun w hm => ev_index_ints ht rfl rfl rfl so_43 (hm.fact (φ := IntsAt A c m t3) 0 rfl) et13518) ?_
            intro a ht
            refine wph_take (i := 14) rfl (by kernel_rfl) (by kernel_rfl) (by kernel_rfl) (fun _ _ _ h => h) rfl ht hS (wanted_yes rfl ht rfl ((decide_eq_false h3518))) (fun w hm => ev_load ht rfl rfl sc_2 (RowAt.cell (hm.fact (φ := IntsAt A c m t3) 0 rfl) (ints_get et13518) rfl)) ?_
            intro a ht
            refine wph_take (i := 15) rfl (by kernel_rfl) (by kernel_rfl) (by kernel_rfl) (fun _ _ _ h => h) rfl ht hS (wanted_yes rfl ht rfl ((decide_eq_false h3518))) (fun w hm => ev_move ht rfl rfl) ?_
            intro a ht
            refine wph_take (i := 17) rfl (by kernel_rfl) (by kernel_rfl) (by kernel_rfl) (fun _ _ _ h => h) rfl ht hS (wanted_yes rfl ht rfl ((decide_eq_false h3518))) (fun w hm => ev_move ht rfl rfl) ?_
            intro a ht
            refine wph_take (i := 18) rfl (by kernel_rfl) (by kernel_rfl) (by kernel_rfl) (fun _ _ _ h => h) rfl ht hS (wanted_yes rfl ht rfl ((decide_eq_false h3518))) (fun w hm => ev_nilCheck ht rfl rfl) ?_
            intro a ht
            refine wph_take (i := 19) rfl (by kernel_rfl) (by kernel_rfl) (by kernel_rfl) (fun _ _ _ h => h) rfl ht hS (wanted_yes rfl ht rfl ((decide_eq_false h3518))) (fun w hm => ev_fieldAddr ht rfl rfl fo_86_1) ?_
            intro a ht
            refine wph_take (i := 20) rfl (by kernel_rfl) (by kernel_rfl) (by kernel_rfl) (fun _ _ _ h => h) rfl ht hS (wanted_yes rfl ht rfl ((decide_eq_false h3518))) (fun w hm => ev_load ht rfl rfl sc_50 (hm.blk_cell 0 rfl rfl)) ?_
            intro a ht
            refine wph_take (i := 21) rfl (by kernel_rfl) (by kernel_rfl) (by kernel_rfl) (fun _ _ _ h => h) rfl ht hS (wanted_yes rfl ht rfl ((decide_eq_false h3518))) (fun w hm => ev_move ht rfl rfl) ?_
            intro a ht
            refine wph_take (i := 22) rfl (by kernel_rfl) (by kernel_rfl) (by kernel_rfl) (fun _ _ _ h => h) rfl ht hS (wanted_yes rfl ht rfl ((decide_eq_false h3518))) (fun w hm => ev_move ht rfl rfl) ?_
            intro a ht
            refine wph_one (i := 16) (by kernel_rfl) (wph_step rfl ?_)
            refine wpl_yes rfl ht rfl ((decide_eq_false h3518)) ?_
            obtain ⟨t16518, et16518, H⟩ := bind_get H
            have hcall := impl_Colouring_at.calls _ _ b2 t t13518 t9 _ ((fun (hq : Ms _ _ _ ([.blk b2 27 (Col.cells t)] ++ [.blk b 86 ([.pointer (some ⟨b2, 0, none⟩), .pointer (some ⟨b3, 0, none⟩), .slice A m c] ++ (gridC 289 t4)), .blk b3 27 (Col.cells t2), .vec A2 17 2 1 m2 (ints p), .blk b4 43 [.slice As0_1 ms0_3 cs0_2], .vec As0_1 cs0_2 2 1 ms0_3 (ints ls0_4)]) _ _) => hq.lend (φp := []) (allRO_nil)) (hm.pick (own' := [.blk b2 27 (Col.cells t)] ++ [.blk b 86 ([.pointer (some ⟨b2, 0, none⟩), .pointer (some ⟨b3, 0, none⟩), .slice A m c] ++ (gridC 289 t4)), .blk b3 27 (Col.cells t2), .vec A2 17 2 1 m2 (ints p), .blk b4 43 [.slice As0_1 ms0_3 cs0_2], .vec As0_1 cs0_2 2 1 ms0_3 (ints ls0_4)]) [1, 0, 2, 3, 4, 5] rfl (by decide))) et16518
            refine wpl_call _ rfl rfl ht rfl rfl rfl rfl can_57 hcall ?_
            clear hcall
            rintro _ w ⟨rfl, hpost⟩ a ht
            replace hm := (hm.pick (own' := [.blk b2 27 (Col.cells t)] ++ [.blk b 86 ([.pointer (some ⟨b2, 0, none⟩), .pointer (some ⟨b3, 0, none⟩), .slice A m c] ++ (gridC 289 t4)), .blk b3 27 (Col.cells t2), .vec A2 17 2 1 m2 (ints p), .blk b4 43 [.slice As0_1 ms0_3 cs0_2], .vec As0_1 cs0_2 2 1 ms0_3 (ints ls0_4)]) [1, 0, 2, 3, 4, 5] rfl (by decide)).backL hpost
            clear hpost
            have hS : Ms X (fps [.blk b 86 ([.pointer (some ⟨b2, 0, none⟩), .pointer (some ⟨b3, 0, none⟩), .slice A m c] ++ (gridC 289 t4)), .blk b2 27 (Col.cells t), .blk b3 27 (Col.cells t2), .vec A2 17 2 1 m2 (ints p), .blk b4 43 [.slice A3 m3 c2], .vec A3 c2 2 1 m3 (ints with_)]) w0 [.blk b 86 ([.pointer (some ⟨b2, 0, none⟩), .pointer (some ⟨b3, 0, none⟩), .slice A m c] ++ (gridC 289 t4)), .blk b2 27 (Col.cells t), .blk b3 27 (Col.cells t2), .vec A2 17 2 1 m2 (ints p), .blk b4 43 [.slice As0_1 ms0_3 cs0_2], .vec As0_1 cs0_2 2 1 ms0_3 (ints ls0_4)] [IntsAt A c m t3] w := (hm.pick [1, 0, 2, 3, 4, 5] rfl (by decide)).pickφ [0] rfl
            refine wpList_nil (qn ⟨hS, ?_⟩)
            refine wph_one (i := 23) (by kernel_rfl) (wph_step rfl ?_)
            refine wpl_yes rfl ht rfl ((decide_eq_false h3518)) ?_
            obtain ⟨t23518, et23518, H⟩ := bind_get H
            have hcall := impl_Colouring_at.calls _ _ b3 t2 t17 xs0_5 _ ((fun (hq : Ms _ _ _ ([.blk b3 27 (Col.cells t2)] ++ [.blk b2 27 (Col.cells t), .blk b 86 ([.pointer (some ⟨b2, 0, none⟩), .pointer (some ⟨b3, 0, none⟩), .slice A m c] ++ (gridC 289 t4)), .vec A2 17 2 1 m2 (ints p), .blk b4 43 [.slice As0_1 ms0_3 cs0_2], .vec As0_1 cs0_2 2 1 ms0_3 (ints ls0_4)]) _ _) => hq.lend (φp := []) (allRO_nil)) (hm.pick (own' := [.blk b3 27 (Col.cells t2)] ++ [.blk b2 27 (Col.cells t), .blk b 86 ([.pointer (some ⟨b2, 0, none⟩), .pointer (some ⟨b3, 0, none⟩), .slice A m c] ++ (gridC 289 t4)), .vec A2 17 2 1 m2 (ints p), .blk b4 43 [.slice As0_1 ms0_3 cs0_2], .vec As0_1 cs0_2 2 1 ms0_3 (ints ls0_4)]) [2, 0, 1, 3, 4, 5] rfl (by decide))) et23518
            refine wpl_call _ rfl rfl ht rfl rfl rfl rfl can_57 hcall ?_
            clear hcall
            rintro _ w ⟨rfl, hpost⟩ a ht
            replace hm := (hm.pick (own' := [.blk b3 27 (Col.cells t2)] ++ [.blk b2 27 (Col.cells t), .blk b 86 ([.pointer (some ⟨b2, 0, none⟩), .pointer (some ⟨b3, 0, none⟩), .slice A m c] ++ (gridC 289 t4)), .vec A2 17 2 1 m2 (ints p), .blk b4 43 [.slice As0_1 ms0_3 cs0_2], .vec As0_1 cs0_2 2 1 ms0_3 (ints ls0_4)]) [2, 0, 1, 3, 4, 5] rfl (by decide)).backL hpost
            clear hpost
            have hS : Ms X (fps [.blk b 86 ([.pointer (some ⟨b2, 0, none⟩), .pointer (some ⟨b3, 0, none⟩), .slice A m c] ++ (gridC 289 t4)), .blk b2 27 (Col.cells t), .blk b3 27 (Col.cells t2), .vec A2 17 2 1 m2 (ints p), .blk b4 43 [.slice A3 m3 c2], .vec A3 c2 2 1 m3 (ints with_)]) w0 [.blk b 86 ([.pointer (some ⟨b2, 0, none⟩), .pointer (some ⟨b3, 0, none⟩), .slice A m c] ++ (gridC 289 t4)), .blk b2 27 (Col.cells t), .blk b3 27 (Col.cells t2), .vec A2 17 2 1 m2 (ints p), .blk b4 43 [.slice As0_1 ms0_3 cs0_2], .vec As0_1 cs0_2 2 1 ms0_3 (ints ls0_4)] [IntsAt A c m t3] w := (hm.pick [2, 1, 0, 3, 4, 5] rfl (by decide)).pickφ [0] rfl
            refine wpList_nil (qn ⟨hS, ?_⟩)
            refine wph_take (i := 24) rfl (by kernel_rfl) (by kernel_rfl) (by kernel_rfl) (fun _ _ _ h => h) rfl ht hS (wanted_yes rfl ht rfl ((decide_eq_false h3518))) (fun w hm => ev_cmp ht rfl rfl rfl rfl) ?_
            intro a ht
            refine wph_take (i := 25) rfl (by kernel_rfl) (by kernel_rfl) (by kernel_rfl) (fun _ _ _ h => h) rfl ht hS (wanted_plain rfl) (fun w hm => ev_pick_no ht rfl rfl (decide_eq_false h3518) rfl) ?_
            intro a ht
            refine wph_done (by kernel_rfl) ?_
            refine then_normal ?_
            by_cases h27018 : t16518 ≠ t23518
            · replace H := ite_yes h27018 H
              refine wpc_yes ht rfl (decide_eq_true h27018) ?_
              refine wp_seq ?_
              refine wpr ?_
              refine wpl rfl rfl ht (ev_assign ht rfl rfl) ?_
              intro a ht
              refine wpList_nil ?_
              refine then_normal ?_
              refine wp_exit ?_
              refine blk_miss (by decide) ?_
              refine then_exit ?_
              refine then_exit ?_
              refine blk_hit ?_
              refine then_normal ?_
              refine wp_seq ?_
              refine wpr ?_
              refine wpl rfl rfl ht (ev_move ht rfl rfl) ?_
              intro a ht
              refine wpl rfl rfl ht (ev_move ht rfl rfl) ?_
              intro a ht
              refine wpl_no rfl rfl ht rfl (by decide) ?_
              intro a ht
              refine wpl_no rfl rfl ht rfl (by decide) ?_
              intro a ht
              refine wpl_no rfl rfl ht rfl (by decide) ?_
              intro a ht
              refine wpl_no rfl rfl ht rfl (by decide) ?_
              intro a ht
              refine wpl_no rfl rfl ht rfl (by decide) ?_
              intro a ht
              refine wpl_no rfl rfl ht rfl (by decide) ?_
              intro a ht
              refine wpl_no rfl rfl ht rfl (by decide) ?_
              intro a ht
              refine wpl_no rfl rfl ht rfl (by decide) ?_
              intro a ht
              refine wpl rfl rfl ht (ev_pick_no ht rfl rfl rfl rfl) ?_
              intro a ht
              refine wpList_nil ?_
              refine then_normal ?_
              refine wpc_no ht rfl rfl ?_
              refine wp_skip ?_
              refine blk_normal ?_
              refine then_normal ?_
              refine wpr ?_
              refine wpl rfl rfl ht (ev_arith ht rfl rfl rfl rfl) ?_
              intro a ht
              refine wpl rfl rfl ht (ev_move ht rfl rfl) ?_
              intro a ht
              refine wpList_nil ?_
              exact then_normal ⟨q15, by omega, ls0_4, (w64 (xs0_5 + 1)), As0_1, cs0_2, ms0_3, H, by omega, ht.sub ⟨rfl, rfl, rfl, rfl, rfl, rfl, rfl, trivial⟩, (hm.pick [2, 1, 0, 3, 4, 5] rfl (by decide)).pickφ [0] rfl⟩
            · replace H := ite_no h27018 H
              refine wpc_no ht rfl (decide_eq_false h27018) ?_
              refine wp_skip ?_
              refine blk_normal ?_
              refine then_normal ?_
              refine wpr ?_
              refine wpl rfl rfl ht (ev_arith ht rfl rfl rfl rfl) ?_
              intro a ht
              refine wpl rfl rfl ht (ev_move ht rfl rfl) ?_
              intro a ht
              refine wpList_nil ?_
              exact then_normal ⟨q15, by omega, (w64 (xs1_1 + 1)), H, by omega, ht.sub ⟨rfl, rfl, rfl, rfl, rfl, rfl, rfl, rfl, rfl, rfl, rfl, rfl, rfl, rfl, rfl, rfl, rfl, rfl, rfl, rfl, rfl, rfl, rfl, trivial⟩, (hm.pick [2, 1, 0, 3, 4, 5] rfl (by decide)).pickφ [0] rfl⟩
        · replace H := ite_no h16 H
          refine wpc_no ht rfl (decide_eq_false h16) ?_
          refine wp_exit ?_
          refine then_exit ?_
          refine then_exit ?_
          refine blk_hit ?_
          refine then_normal ?_
          refine wp_seq ?_
          refine wpr ?_
          refine wpl rfl rfl ht (ev_move ht rfl rfl) ?_
          intro a ht
          refine wpl rfl rfl ht (ev_move ht rfl rfl) ?_
          intro a ht
          refine wpl_yes rfl ht rfl (rfl) ?_
          refine wpl rfl rfl ht (ev_move ht rfl rfl) ?_
          intro a ht
          refine wpl_yes rfl ht rfl (rfl) ?_
          refine wpl rfl rfl ht (ev_move ht rfl rfl) ?_
          intro a ht
          refine wpl_yes rfl ht rfl (rfl) ?_
          refine wpl rfl rfl ht (ev_move ht rfl rfl) ?_
          intro a ht
          refine wpl_yes rfl ht rfl (rfl) ?_
          refine wpl_build_ints (l := [xs0_5]) rfl rfl ht hm rfl und_43 zo_2 sz1_2 (by decide) rfl rfl rfl ?_
          intro A27019 a ht w hm
          refine wpl_yes rfl ht rfl (rfl) ?_
          obtain ⟨u27023, eu27023, H⟩ := bind_get H
          obtain ⟨l27024, el27024, H⟩ := bind_get H
          refine wpl_push_in (r := l27024) 4 0 rfl rfl ht hm rfl ap_43 rfl rfl rfl rfl (guardO_get eu27023) el27024 ?_
          intro a ht w hm
          refine wpl_yes rfl ht rfl (rfl) ?_
          refine wpl rfl rfl ht (ev_move ht rfl rfl) ?_
          intro a ht
          refine wpl_yes rfl ht rfl (rfl) ?_
          obtain ⟨t27025, et27025, H⟩ := bind_get H
          have hcall := ih q15 (by omega) _ _ b b2 b3 A c m A2 (m2 + 1) b4 As0_1 cs0_2 ms0_3 t t2 t3 t4 l27024 ls0_4 _ ((fun (hq : Ms _ _ _ ([.blk b 86 ([.pointer (some ⟨b2, 0, none⟩), .pointer (some ⟨b3, 0, none⟩), .slice A m c] ++ (gridC 289 t4)), .blk b2 27 (Col.cells t), .blk b3 27 (Col.cells t2), .vec A2 17 2 1 (m2 + 1) (ints l27024), .blk b4 43 [.slice As0_1 ms0_3 cs0_2], .vec As0_1 cs0_2 2 1 ms0_3 (ints ls0_4)] ++ [.vec A27019 1 2 1 1 (ints ([xs0_5]))]) _ _) => hq.lend (φp := [IntsAt A c m t3]) (allRO_cons (hq.lendFact 0 rfl) (allRO_nil))) (hm.pick (own' := [.blk b 86 ([.pointer (some ⟨b2, 0, none⟩), .pointer (some ⟨b3, 0, none⟩), .slice A m c] ++ (gridC 289 t4)), .blk b2 27 (Col.cells t), .blk b3 27 (Col.cells t2), .vec A2 17 2 1 (m2 + 1) (ints l27024), .blk b4 43 [.slice As0_1 ms0_3 cs0_2], .vec As0_1 cs0_2 2 1 ms0_3 (ints ls0_4)] ++ [.vec A27019 1 2 1 1 (ints ([xs0_5]))]) [1, 2, 3, 4, 5, 6, 0] rfl (by decide))) et27025
          refine wpl_call _ rfl rfl ht rfl rfl rfl rfl can_49 hcall ?_
          clear hcall
          rintro _ w ⟨A27026, c27027, m27028, rfl, hpost⟩ a ht
          replace hm := (hm.pick (own' := [.blk b 86 ([.pointer (some ⟨b2, 0, none⟩), .pointer (some ⟨b3, 0, none⟩), .slice A m c] ++ (gridC 289 t4)), .blk b2 27 (Col.cells t), .blk b3 27 (Col.cells t2), .vec A2 17 2 1 (m2 + 1) (ints l27024), .blk b4 43 [.slice As0_1 ms0_3 cs0_2], .vec As0_1 cs0_2 2 1 ms0_3 (ints ls0_4)] ++ [.vec A27019 1 2 1 1 (ints ([xs0_5]))]) [1, 2, 3, 4, 5, 6, 0] rfl (by decide)).backL hpost
          clear hpost
          replace hm := hm.unpush (l := p) (m := m2) 3 rfl el27024
          refine wpl_yes rfl ht rfl (rfl) ?_
          refine wpl rfl rfl ht (ev_not ht rfl rfl) ?_
          intro a ht
          refine wpl rfl rfl ht (ev_pick_yes ht rfl rfl rfl rfl) ?_
          intro a ht
          refine wpList_nil ?_
          refine then_normal ?_
          by_cases h27029 : t27025.1 = true
          · replace H := ite_yes h27029 H
            refine wpc_no ht rfl (not_t h27029) ?_
            refine wp_skip ?_
            refine blk_normal ?_
            refine then_normal ?_
            refine wpr ?_
            refine wpl rfl rfl ht (ev_arith ht rfl rfl rfl rfl) ?_
            intro a ht
            refine wpl rfl rfl ht (ev_move ht rfl rfl) ?_
            intro a ht
            refine wpList_nil ?_
            exact then_normal ⟨q15, by omega, t27025.2, (w64 (xs0_5 + 1)), A27026, c27027, m27028, H, by omega, ht.sub ⟨rfl, rfl, rfl, rfl, rfl, rfl, rfl, trivial⟩, (hm.pick [0, 1, 2, 3, 5, 4] rfl (by decide)).pickφ [0] rfl⟩
          · replace H := ite_no h27029 H
            refine wpc_yes ht rfl (not_f (Bool.eq_false_iff.mpr h27029)) ?_
            refine wp_seq ?_
            refine wpr ?_
            refine wpl rfl rfl ht (ev_assign ht rfl rfl) ?_
            intro a ht
            refine wpList_nil ?_
            refine then_normal ?_
            refine wp_ret ?_
            refine blk_ret ?_
            refine then_ret ?_
            refine then_ret ?_
            refine blk_ret ?_
            refine then_ret ?_
            have hres := ht.res (P := Try.prog) (w := w) (rs := [.tmp 6]) (vs := [.bool false]) (.tmp rfl .nil)
            obtain rfl := Option.some.inj H
            exact leave ht rfl hres ⟨A27026, c27027, m27028, rfl, ((hm.pick [0, 1, 2, 3, 4, 5] rfl (by decide)).pickφ [] rfl).post fun _ h => h⟩
      · replace H := ite_no h14 H
        refine wpc_yes ht rfl (not_f (Bool.eq_false_iff.mpr h14)) ?_
        refine wp_exit ?_
        refine then_exit ?_
        refine blk_hit ?_
        refine then_normal ?_
        refine wpr ?_
        refine wpl rfl rfl ht (ev_arith ht rfl rfl rfl rfl) ?_
        intro a ht
        refine wpl rfl rfl ht (ev_move ht rfl rfl) ?_
        intro a ht
        refine wpList_nil ?_
        exact then_normal ⟨q10, by omega, ls0_4, (w64 (xs0_5 + 1)), As0_1, cs0_2, ms0_3, H, by omega, ht.sub ⟨rfl, rfl, rfl, rfl, rfl, rfl, rfl, trivial⟩, (hm.pick [0, 1, 2, 3, 4, 5] rfl (by decide)).pickφ [0] rfl⟩
    · replace H := ite_no h11 H
      refine wpc_no ht rfl (decide_eq_false h11) ?_
      refine wp_exit ?_
      refine then_exit ?_
      refine then_exit ?_
      refine blk_hit ?_
      refine then_normal ?_
      refine wp_seq ?_
      refine wpr ?_
      refine wpl rfl rfl ht (ev_assign ht rfl rfl) ?_
      intro a ht
      refine wpList_nil ?_
      refine then_normal ?_
      refine wp_ret ?_
      have hres := ht.res (P := Try.prog) (w := w) (rs := [.tmp 6]) (vs := [.bool true]) (.tmp rfl .nil)
      obtain rfl := Option.some.inj H
      exact leave ht rfl hres ⟨As0_1, cs0_2, ms0_3, rfl, ((hm.pick [0, 1, 2, 3, 5, 4] rfl (by decide)).pickφ [] rfl).post fun _ h => h⟩

/-! ### impl_Colouring_leading__Colouring_renumbering_1: function 25 ((*loop.example/g01362/impl.Colouring).leading) -/
def impl_Colouring_leading__Colouring_renumbering_1.f (k : Nat) (x : Col) (y : Col) (with_ : List Int) : Option (Bool × List Int) := (impl_Colouring_points.f k x).bind fun t1 => (impl_newTracer.f k x y t1).bind fun t5 => (impl_tracer_all__Colouring_renumbering_1.f k x y t5.1 t5.2 ([] : List Int) with_).bind fun t11 => some (t11.1, t11.2)
set_option maxRecDepth 100000 in
set_option maxHeartbeats 20000000 in
theorem impl_Colouring_leading__Colouring_renumbering_1.calls (k : Nat) (X : List Nat) (w0 : World) (b : Nat) (b2 : Nat) (b3 : Nat) (A : Option Addr) (c : Nat) (m : Nat) (x : Col) (y : Col) (with_ : List Int) (r : Bool × List Int)
    (hp : Pre X w0 [.blk b 27 (Col.cells x), .blk b2 27 (Col.cells y), .blk b3 43 [.slice A m c], .vec A c 2 1 m (ints with_)] []) (H : impl_Colouring_leading__Colouring_renumbering_1.f k x y with_ = some r) :
    Calls Try.prog 25 [.pointer (some ⟨b, 0, none⟩), .pointer (some ⟨b2, 0, none⟩), .func (.func 78) [].toArray [.pointer (some ⟨b3, 0, none⟩)].toArray].toArray w0 (Ret fun v w => ∃ (B_2_0 : Option Addr) (d_2_0 : Nat) (m_2_0 : Nat), v = .bool r.1 ∧ Post X (fps [.blk b 27 (Col.cells x), .blk b2 27 (Col.cells y), .blk b3 43 [.slice A m c], .vec A c 2 1 m (ints with_)]) w0 [.blk b 27 (Col.cells x), .blk b2 27 (Col.cells y), .vec B_2_0 d_2_0 2 1 m_2_0 (ints r.2), .blk b3 43 [.slice B_2_0 m_2_0 d_2_0]] [] w) := by
  unfold impl_Colouring_leading__Colouring_renumbering_1.f at H
  refine enterM (n := 21) hp Try.func25 rfl rfl (Nat.le_of_ble_eq_true rfl) fun a w ht hm => ?_
  refine wp_seq ?_
  refine wpr ?_
  refine wpl rfl rfl ht (ev_assign ht rfl rfl) ?_
  intro a ht
  refine wpList_nil ?_
  refine then_normal ?_
  refine wp_seq ?_
  refine wpr ?_
  refine wpl rfl rfl ht (ev_move ht rfl rfl) ?_
  intro a ht
  refine wpl rfl rfl ht (ev_move ht rfl rfl) ?_
  intro a ht
  refine wpl rfl rfl ht (ev_move ht rfl rfl) ?_
  intro a ht
  obtain ⟨t1, et1, H⟩ := bind_get H
  have hcall := impl_Colouring_points.calls k _ _ b x _ ((fun (hq : Ms _ _ _ ([.blk b 27 (Col.cells x)] ++ [.blk b2 27 (Col.cells y), .blk b3 43 [.slice A m c], .vec A c 2 1 m (ints with_)]) _ _) => hq.lend (φp := []) (allRO_nil)) (hm.pick (own' := [.blk b 27 (Col.cells x)] ++ [.blk b2 27 (Col.cells y), .blk b3 43 [.slice A m c], .vec A c 2 1 m (ints with_)]) [0, 1, 2, 3] rfl (by decide))) et1
  refine wpl_call _ rfl rfl ht rfl rfl rfl rfl can_48 hcall ?_
  clear hcall
  rintro _ w ⟨A2, c3, m4, rfl, hpost⟩ a ht
  replace hm := (hm.pick (own' := [.blk b 27 (Col.cells x)] ++ [.blk b2 27 (Col.cells y), .blk b3 43 [.slice A m c], .vec A c 2 1 m (ints with_)]) [0, 1, 2, 3] rfl (by decide)).backL hpost
  clear hpost
  replace hm : Ms _ _ _ _ (IntsAt A2 c3 m4 t1 :: _) w := hm.shutVec 0 rfl
  obtain ⟨t5, et5, H⟩ := bind_get H
  have hcall := impl_newTracer.calls k _ _ b b2 A2 c3 m4 x y t1 _ ((hm.pick (own' := [.blk b 27 (Col.cells x), .blk b2 27 (Col.cells y)] ++ [.blk b3 43 [.slice A m c], .vec A c 2 1 m (ints with_)]) [0, 1, 2, 3] rfl (by decide)).give (passed := [.blk b 27 (Col.cells x), .blk b2 27 (Col.cells y)]) (rest := [.blk b3 43 [.slice A m c], .vec A c 2 1 m (ints with_)]) (φp := [IntsAt A2 c3 m4 t1]) [0] rfl) et5
  refine wpl_call _ rfl rfl ht rfl rfl rfl rfl can_47 hcall ?_
  clear hcall
  rintro _ w ⟨b6, A7, c8, m9, rfl, hpost⟩ a ht
  replace hm := (hm.pick (own' := [.blk b 27 (Col.cells x), .blk b2 27 (Col.cells y)] ++ [.blk b3 43 [.slice A m c], .vec A c 2 1 m (ints with_)]) [0, 1, 2, 3] rfl (by decide)).back hpost
  clear hpost
  refine wpl rfl rfl ht (ev_assign ht rfl rfl) ?_
  intro a ht
  refine wpList_nil ?_
  refine then_normal ?_
  refine wp_seq ?_
  refine wpr ?_
  refine wpl rfl rfl ht (ev_move ht rfl rfl) ?_
  intro a ht
  refine wpl rfl rfl ht (ev_eq_ptr_nil ht rfl rfl rfl und_68) ?_
  intro a ht
  refine wpl rfl rfl ht (ev_move ht rfl rfl) ?_
  intro a ht
  refine wpl_yes rfl ht rfl (rfl) ?_
  refine wpl rfl rfl ht (ev_move ht rfl rfl) ?_
  intro a ht
  refine wpl_yes rfl ht rfl (rfl) ?_
  refine wpl_make_cap (c := 17) rfl rfl ht hm rfl und_43 zo_2 sz1_2 by_2 rfl rfl (by decide) ?_
  intro A10 a ht w hm
  refine wpl_yes rfl ht rfl (rfl) ?_
  refine wpl rfl rfl ht (ev_move ht rfl rfl) ?_
  intro a ht
  refine wpl_yes rfl ht rfl (rfl) ?_
  obtain ⟨t11, et11, H⟩ := bind_get H
  have hcall := impl_tracer_all__Colouring_renumbering_1.calls k _ _ b6 b b2 A7 c8 m9 A10 0 b3 A c m x y t5.1 t5.2 ([] : List Int) with_ _ ((fun (hq : Ms _ _ _ ([.blk b6 86 ([.pointer (some ⟨b, 0, none⟩), .pointer (some ⟨b2, 0, none⟩), .slice A7 m9 c8] ++ (gridC 289 t5.2)), .blk b 27 (Col.cells x), .blk b2 27 (Col.cells y), .vec A10 17 2 1 0 (ints ([] : List Int)), .blk b3 43 [.slice A m c], .vec A c 2 1 m (ints with_)] ++ []) _ _) => hq.lend (φp := [IntsAt A7 c8 m9 t5.1]) (allRO_cons (hq.lendFact 0 rfl) (allRO_nil))) (hm.pick (own' := [.blk b6 86 ([.pointer (some ⟨b, 0, none⟩), .pointer (some ⟨b2, 0, none⟩), .slice A7 m9 c8] ++ (gridC 289 t5.2)), .blk b 27 (Col.cells x), .blk b2 27 (Col.cells y), .vec A10 17 2 1 0 (ints ([] : List Int)), .blk b3 43 [.slice A m c], .vec A c 2 1 m (ints with_)] ++ []) [1, 2, 3, 0, 4, 5] rfl (by decide))) et11
  refine wpl_call _ rfl rfl ht rfl rfl rfl rfl can_49 hcall ?_
  clear hcall
  rintro _ w ⟨A12, c13, m14, rfl, hpost⟩ a ht
  replace hm := (hm.pick (own' := [.blk b6 86 ([.pointer (some ⟨b, 0, none⟩), .pointer (some ⟨b2, 0, none⟩), .slice A7 m9 c8] ++ (gridC 289 t5.2)), .blk b 27 (Col.cells x), .blk b2 27 (Col.cells y), .vec A10 17 2 1 0 (ints ([] : List Int)), .blk b3 43 [.slice A m c], .vec A c 2 1 m (ints with_)] ++ []) [1, 2, 3, 0, 4, 5] rfl (by decide)).backL hpost
  clear hpost
  refine wpl rfl rfl ht (ev_pick_no ht rfl rfl rfl rfl) ?_
  intro a ht
  refine wpl rfl rfl ht (ev_assign ht rfl rfl) ?_
  intro a ht
  refine wpList_nil ?_
  refine then_normal ?_
  refine wp_ret ?_
  have hres := ht.res (P := Try.prog) (w := w) (rs := [.tmp 6]) (vs := [.bool t11.1]) (.tmp rfl .nil)
  obtain rfl := Option.some.inj H
  exact leave ht rfl hres ⟨A12, c13, m14, rfl, ((hm.pick [1, 2, 4, 5] rfl (by decide)).pickφ [] rfl).post fun _ h => h⟩

end Go.Proofs.Ytbgniopmmankdaa.G
