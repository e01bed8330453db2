/- What each Go function computes, as a Lean function, and the proof that it does: written by a program of this session (wip/gen), part 4. -/
import Derived.Test.YtfbdcidedjocdaaGFnExactOutcomeOf3
namespace Go.Proofs.Ytfbdcidedjocdaa.G
open Go Go.RowKit Go.Proofs.Ytfbdcidedjocdaa.K
set_option linter.unusedVariables false
set_option linter.unusedSimpArgs false

/-! ### spec_l09Outcome: function 63 (loop.example/g01362/spec.l09Outcome) -/
mutual
def spec_l09Outcome.l0 : Nat → Int → List Int → Int → Int → List Int → List Int → Int → Int → Option (Int × List Int)
  | 0, _, _, _, _, _, _, _, _ => none
  | q12 + 1, n_, list, t1, t7, t8, ls0_1, xs0_2, xs0_3 => if xs0_3 < (t8.length : Int) then (if xs0_2 ≠ t7 then ((getI t8 xs0_3).bind fun t15 => (spec_l09Move.f q12 list t15).bind fun t16 => (spec_l09Outcome.f q12 n_ t16 ls0_1).bind fun t20 => if t20.1 = t7 then (spec_l09Outcome.l0 q12 n_ list t1 t7 t8 t20.2 t20.1 (w64 (xs0_3 + 1))) else (if t20.1 = 2 then (spec_l09Outcome.l0 q12 n_ list t1 t7 t8 t20.2 t20.1 (w64 (xs0_3 + 1))) else (spec_l09Outcome.l0 q12 n_ list t1 t7 t8 t20.2 xs0_2 (w64 (xs0_3 + 1))))) else ((getI ls0_1 t1).bind fun t23 => some (xs0_2, ls0_1.set t1.toNat xs0_2))) else ((getI ls0_1 t1).bind fun t24 => some (xs0_2, ls0_1.set t1.toNat xs0_2))
def spec_l09Outcome.f : Nat → Int → List Int → List Int → Option (Int × List Int)
  | 0, _, _, _ => none
  | k + 1, n_, list, known => (spec_l09Number.f k list).bind fun t1 => (getI known t1).bind fun t2 => if t2 ≥ 0 then ((getI known t1).bind fun t4 => some (t4, known)) else ((spec_l09Result.f k n_ list).bind fun t5 => if t5 < 0 then ((spec_l09Mover.f k list).bind fun t7 => (spec_l09Free.f k list).bind fun t8 => spec_l09Outcome.l0 k n_ list t1 t7 t8 known (w64 (1 - t7)) 0) else ((getI known t1).bind fun t25 => some (t5, known.set t1.toNat t5)))
end
set_option maxRecDepth 100000 in
set_option maxHeartbeats 1000000 in
theorem spec_l09Outcome.calls (k : Nat) (X : List Nat) (w0 : World) (A : Option Addr) (c : Nat) (m : Nat) (A2 : Option Addr) (c2 : Nat) (m2 : Nat) (n_ : Int) (list : List Int) (known : List Int) (r : Int × List Int)
    (hp : Pre X w0 [.vec A2 c2 2 1 m2 (ints known)] [IntsAt A c m list]) (H : spec_l09Outcome.f k n_ list known = some r) :
    Calls Try.prog 63 [.int .i64 n_, .slice A m c, .slice A2 m2 c2].toArray w0 (Ret fun v w => v = .int .i64 r.1 ∧ Post X (fps [.vec A2 c2 2 1 m2 (ints known)]) w0 [.vec A2 c2 2 1 m2 (ints r.2)] [] w) := by
  induction k using Nat.strongRecOn generalizing X w0 A c m A2 c2 m2 n_ list known r with
  | _ k ih =>
  cases k with
  | zero => cases H
  | succ k =>
  rw [spec_l09Outcome.f] at H
  refine enterM (n := 68) hp Try.func63 rfl rfl (Nat.le_of_ble_eq_true rfl) fun a w ht hm => ?_
  induction k using Nat.strongRecOn with
  | _ k ih =>
  refine wp_seq ?_
  refine wpr ?_
  refine wpl rfl rfl ht (ev_assign ht rfl rfl) ?_
  intro a ht
  refine wpList_nil ?_
  refine then_normal ?_
  refine wp_seq ?_
  refine wpr ?_
  refine wpl rfl rfl ht (ev_move ht rfl rfl) ?_
  intro a ht
  obtain ⟨t1, et1, H⟩ := bind_get H
  have hcall := spec_l09Number.calls k _ _ A c m list _ ((fun (hq : Ms _ _ _ ([] ++ [.vec A2 c2 2 1 m2 (ints known)]) _ _) => hq.lend (φp := [IntsAt A c m list]) (allRO_cons (hq.lendFact 0 rfl) (allRO_nil))) (hm.pick (own' := [] ++ [.vec A2 c2 2 1 m2 (ints known)]) [0] rfl (by decide))) et1
  refine wpl_call _ rfl rfl ht rfl rfl rfl rfl can_83 hcall ?_
  clear hcall
  rintro _ w ⟨rfl, hpost⟩ a ht
  replace hm := (hm.pick (own' := [] ++ [.vec A2 c2 2 1 m2 (ints known)]) [0] rfl (by decide)).backL hpost
  clear hpost
  refine wpl rfl rfl ht (ev_assign ht rfl rfl) ?_
  intro a ht
  refine wpList_nil ?_
  refine then_normal ?_
  refine wp_seq ?_
  refine wp_seq ?_
  refine wpr ?_
  refine wpl rfl rfl ht (ev_move ht rfl rfl) ?_
  intro a ht
  refine wpl rfl rfl ht (ev_move ht rfl rfl) ?_
  intro a ht
  obtain ⟨t2, et2, H⟩ := bind_get H
  refine wpl rfl rfl ht (ev_index_ints ht rfl rfl rfl so_22 (hm.vec_row 0 rfl) et2) ?_
  intro a ht
  refine wpl rfl rfl ht (ev_load ht rfl rfl sc_2 (RowAt.cell (hm.vec_row 0 rfl) (ints_get et2) rfl)) ?_
  intro a ht
  refine wpl rfl rfl ht (ev_cmp ht rfl rfl rfl rfl) ?_
  intro a ht
  refine wpList_nil ?_
  refine then_normal ?_
  by_cases h3 : t2 ≥ 0
  · replace H := ite_yes h3 H
    refine wpc_yes ht rfl (decide_eq_true h3) ?_
    refine wp_seq ?_
    refine wpr ?_
    refine wpl rfl rfl ht (ev_move ht rfl rfl) ?_
    intro a ht
    refine wpl rfl rfl ht (ev_move ht rfl rfl) ?_
    intro a ht
    obtain ⟨t4, et4, H⟩ := bind_get H
    refine wpl rfl rfl ht (ev_index_ints ht rfl rfl rfl so_22 (hm.vec_row 0 rfl) et4) ?_
    intro a ht
    refine wpl rfl rfl ht (ev_load ht rfl rfl sc_2 (RowAt.cell (hm.vec_row 0 rfl) (ints_get et4) rfl)) ?_
    intro a ht
    refine wpl rfl rfl ht (ev_assign ht rfl rfl) ?_
    intro a ht
    refine wpList_nil ?_
    refine then_normal ?_
    refine wp_ret ?_
    refine then_ret ?_
    have hres := ht.res (P := Try.prog) (w := w) (rs := [.tmp 6]) (vs := [.int .i64 t4]) (.tmp rfl .nil)
    obtain rfl := Option.some.inj H
    exact leave ht rfl hres ⟨rfl, ((hm.pick [0] rfl (by decide)).pickφ [] rfl).post fun _ h => h⟩
  · replace H := ite_no h3 H
    refine wpc_no ht rfl (decide_eq_false h3) ?_
    refine wp_skip ?_
    refine then_normal ?_
    refine wp_seq ?_
    refine wpr ?_
    refine wpl rfl rfl ht (ev_move ht rfl rfl) ?_
    intro a ht
    refine wpl rfl rfl ht (ev_move ht rfl rfl) ?_
    intro a ht
    obtain ⟨t5, et5, H⟩ := bind_get H
    have hcall := spec_l09Result.calls k _ _ A c m n_ list _ ((fun (hq : Ms _ _ _ ([] ++ [.vec A2 c2 2 1 m2 (ints known)]) _ _) => hq.lend (φp := [IntsAt A c m list]) (allRO_cons (hq.lendFact 0 rfl) (allRO_nil))) (hm.pick (own' := [] ++ [.vec A2 c2 2 1 m2 (ints known)]) [0] rfl (by decide))) et5
    refine wpl_call _ rfl rfl ht rfl rfl rfl rfl can_43 hcall ?_
    clear hcall
    rintro _ w ⟨rfl, hpost⟩ a ht
    replace hm := (hm.pick (own' := [] ++ [.vec A2 c2 2 1 m2 (ints known)]) [0] rfl (by decide)).backL hpost
    clear hpost
    refine wpl rfl rfl ht (ev_assign ht rfl rfl) ?_
    intro a ht
    refine wpList_nil ?_
    refine then_normal ?_
    refine wp_seq ?_
    refine wp_seq ?_
    refine wpr ?_
    refine wpl rfl rfl ht (ev_move ht rfl rfl) ?_
    intro a ht
    refine wpl rfl rfl ht (ev_cmp ht rfl rfl rfl rfl) ?_
    intro a ht
    refine wpList_nil ?_
    refine then_normal ?_
    by_cases h6 : t5 < 0
    · replace H := ite_yes h6 H
      refine wpc_yes ht rfl (decide_eq_true h6) ?_
      refine wp_seq ?_
      refine wpr ?_
      refine wpl rfl rfl ht (ev_move ht rfl rfl) ?_
      intro a ht
      obtain ⟨t7, et7, H⟩ := bind_get H
      have hcall := spec_l09Mover.calls k _ _ A c m list _ ((fun (hq : Ms _ _ _ ([] ++ [.vec A2 c2 2 1 m2 (ints known)]) _ _) => hq.lend (φp := [IntsAt A c m list]) (allRO_cons (hq.lendFact 0 rfl) (allRO_nil))) (hm.pick (own' := [] ++ [.vec A2 c2 2 1 m2 (ints known)]) [0] rfl (by decide))) et7
      refine wpl_call _ rfl rfl ht rfl rfl rfl rfl can_51 hcall ?_
      clear hcall
      rintro _ w ⟨rfl, hpost⟩ a ht
      replace hm := (hm.pick (own' := [] ++ [.vec A2 c2 2 1 m2 (ints known)]) [0] rfl (by decide)).backL hpost
      clear hpost
      refine wpl rfl rfl ht (ev_assign ht rfl rfl) ?_
      intro a ht
      refine wpList_nil ?_
      refine then_normal ?_
      refine wp_seq ?_
      refine wpr ?_
      refine wpl rfl rfl ht (ev_move ht rfl rfl) ?_
      intro a ht
      refine wpl rfl rfl ht (ev_arith ht rfl rfl rfl rfl) ?_
      intro a ht
      refine wpl rfl rfl ht (ev_assign ht rfl rfl) ?_
      intro a ht
      refine wpList_nil ?_
      refine then_normal ?_
      refine wp_seq ?_
      refine wpr ?_
      refine wpl rfl rfl ht (ev_move ht rfl rfl) ?_
      intro a ht
      obtain ⟨t8, et8, H⟩ := bind_get H
      have hcall := spec_l09Free.calls k _ _ A c m list _ ((fun (hq : Ms _ _ _ ([] ++ [.vec A2 c2 2 1 m2 (ints known)]) _ _) => hq.lend (φp := [IntsAt A c m list]) (allRO_cons (hq.lendFact 0 rfl) (allRO_nil))) (hm.pick (own' := [] ++ [.vec A2 c2 2 1 m2 (ints known)]) [0] rfl (by decide))) et8
      refine wpl_call _ rfl rfl ht rfl rfl rfl rfl can_75 hcall ?_
      clear hcall
      rintro _ w ⟨A9, c10, m11, rfl, hpost⟩ a ht
      replace hm := (hm.pick (own' := [] ++ [.vec A2 c2 2 1 m2 (ints known)]) [0] rfl (by decide)).backL hpost
      clear hpost
      refine wpl rfl rfl ht (ev_assign ht rfl rfl) ?_
      intro a ht
      refine wpList_nil ?_
      refine then_normal ?_
      refine wp_seq ?_
      refine wpr ?_
      refine wpl rfl rfl ht (ev_assign ht rfl rfl) ?_
      intro a ht
      refine wpList_nil ?_
      refine then_normal ?_
      refine wp_block ?_
      refine wpLoop (fun q a w => ∃ (ls0_1 : List Int) (xs0_2 : Int) (xs0_3 : Int), spec_l09Outcome.l0 q n_ list t1 t7 t8 ls0_1 xs0_2 xs0_3 = some r ∧ q ≤ k ∧ Tm 68 [(0, .int .i64 n_), (1, .slice A m c), (2, .slice A2 m2 c2), (6, .int .i64 0), (7, .int .i64 t1), (9, .int .i64 t7), (10, .slice A9 m11 c10), (8, .int .i64 xs0_2), (11, .int .i64 xs0_3)] a ∧ Ms X (fps [.vec A2 c2 2 1 m2 (ints known)]) w0 [.vec A9 c10 2 1 m11 (ints t8), .vec A2 c2 2 1 m2 (ints ls0_1)] [IntsAt A c m list] w) (k0 := k) ⟨known, (w64 (1 - t7)), 0, H, Nat.le_refl _, ht.sub ⟨rfl, rfl, rfl, rfl, rfl, rfl, rfl, rfl, rfl, trivial⟩, (hm.pick [0, 1] rfl (by decide)).pickφ [0] rfl⟩ ?_
      clear H ht hm
      intro q12 a w hJ
      obtain ⟨ls0_1, xs0_2, xs0_3, H, hqq12, ht, hm⟩ := hJ
      cases q12 with
      | zero => cases H
      | succ q12 =>
      rw [spec_l09Outcome.l0] at H
      refine wp_seq ?_
      refine wp_seq ?_
      refine wpr ?_
      refine wpl rfl rfl ht (ev_move ht rfl rfl) ?_
      intro a ht
      refine wpl rfl rfl ht (ev_move ht rfl rfl) ?_
      intro a ht
      refine wpl rfl rfl ht (ev_len_of ht rfl rfl und_22 (hm.vec_row 0 rfl)) ?_
      intro a ht
      refine wpl rfl rfl ht (ev_cmp ht rfl rfl rfl rfl) ?_
      intro a ht
      refine wpl rfl rfl ht (ev_move ht rfl rfl) ?_
      intro a ht
      by_cases h13 : xs0_3 < (t8.length : Int)
      · replace H := ite_yes h13 H
        refine wpl_yes rfl ht rfl ((decide_eq_true h13)) ?_
        refine wpl rfl rfl ht (ev_move ht rfl rfl) ?_
        intro a ht
        refine wpl_yes rfl ht rfl ((decide_eq_true h13)) ?_
        refine wpl rfl rfl ht (ev_move ht rfl rfl) ?_
        intro a ht
        refine wpl_yes rfl ht rfl ((decide_eq_true h13)) ?_
        refine wpl rfl rfl ht (ev_cmp ht rfl rfl rfl rfl) ?_
        intro a ht
        refine wpl rfl rfl ht (ev_pick_yes ht rfl rfl (decide_eq_true h13) rfl) ?_
        intro a ht
        refine wpList_nil ?_
        refine then_normal ?_
        by_cases h14 : xs0_2 ≠ t7
        · replace H := ite_yes h14 H
          refine wpc_yes ht rfl (decide_eq_true h14) ?_
          refine wp_skip ?_
          refine then_normal ?_
          refine wp_seq ?_
          refine wp_block ?_
          refine wp_seq ?_
          refine wpr ?_
          refine wpl rfl rfl ht (ev_move ht rfl rfl) ?_
          intro a ht
          refine wpl rfl rfl ht (ev_move ht rfl rfl) ?_
          intro a ht
          refine wpl rfl rfl ht (ev_move ht rfl rfl) ?_
          intro a ht
          refine wpl rfl rfl ht (ev_move ht rfl rfl) ?_
          intro a ht
          obtain ⟨t15, et15, H⟩ := bind_get H
          refine wpl rfl rfl ht (ev_index_ints ht rfl rfl rfl so_22 (hm.vec_row 0 rfl) et15) ?_
          intro a ht
          refine wpl rfl rfl ht (ev_load ht rfl rfl sc_2 (RowAt.cell (hm.vec_row 0 rfl) (ints_get et15) rfl)) ?_
          intro a ht
          obtain ⟨t16, et16, H⟩ := bind_get H
          have hcall := spec_l09Move.calls q12 _ _ A c m list t15 _ ((fun (hq : Ms _ _ _ ([] ++ [.vec A9 c10 2 1 m11 (ints t8), .vec A2 c2 2 1 m2 (ints ls0_1)]) _ _) => hq.lend (φp := [IntsAt A c m list]) (allRO_cons (hq.lendFact 0 rfl) (allRO_nil))) (hm.pick (own' := [] ++ [.vec A9 c10 2 1 m11 (ints t8), .vec A2 c2 2 1 m2 (ints ls0_1)]) [0, 1] rfl (by decide))) et16
          refine wpl_call _ rfl rfl ht rfl rfl rfl rfl can_45 hcall ?_
          clear hcall
          rintro _ w ⟨A17, c18, m19, rfl, hpost⟩ a ht
          replace hm := (hm.pick (own' := [] ++ [.vec A9 c10 2 1 m11 (ints t8), .vec A2 c2 2 1 m2 (ints ls0_1)]) [0, 1] rfl (by decide)).backL hpost
          clear hpost
          refine wpl rfl rfl ht (ev_move ht rfl rfl) ?_
          intro a ht
          obtain ⟨t20, et20, H⟩ := bind_get H
          have hcall := ih q12 (by omega) _ _ A17 c18 m19 A2 c2 m2 n_ t16 ls0_1 _ ((fun (hq : Ms _ _ _ ([.vec A2 c2 2 1 m2 (ints ls0_1)] ++ [.vec A17 c18 2 1 m19 (ints t16), .vec A9 c10 2 1 m11 (ints t8)]) _ _) => hq.lend (φp := [IntsAt A17 c18 m19 t16]) (allRO_cons (hq.lendVec 0 rfl) (allRO_nil))) (hm.pick (own' := [.vec A2 c2 2 1 m2 (ints ls0_1)] ++ [.vec A17 c18 2 1 m19 (ints t16), .vec A9 c10 2 1 m11 (ints t8)]) [2, 0, 1] rfl (by decide))) et20
          refine wpl_call _ rfl rfl ht rfl rfl rfl rfl can_63 hcall ?_
          clear hcall
          rintro _ w ⟨rfl, hpost⟩ a ht
          replace hm := (hm.pick (own' := [.vec A2 c2 2 1 m2 (ints ls0_1)] ++ [.vec A17 c18 2 1 m19 (ints t16), .vec A9 c10 2 1 m11 (ints t8)]) [2, 0, 1] rfl (by decide)).backL hpost
          clear hpost
          refine wpl rfl rfl ht (ev_assign ht rfl rfl) ?_
          intro a ht
          refine wpList_nil ?_
          refine then_normal ?_
          refine wp_seq ?_
          refine wpr ?_
          refine wpl rfl rfl ht (ev_move ht rfl rfl) ?_
          intro a ht
          refine wpl rfl rfl ht (ev_move ht rfl rfl) ?_
          intro a ht
          refine wpl rfl rfl ht (ev_cmp ht rfl rfl rfl rfl) ?_
          intro a ht
          refine wpl rfl rfl ht (ev_move ht rfl rfl) ?_
          intro a ht
          by_cases h21 : t20.1 = t7
          · replace H := ite_yes h21 H
            refine wpl_no rfl rfl ht rfl (by rw [(decide_eq_true h21)]; decide) ?_
            intro a ht
            refine wpl_no rfl rfl ht rfl (by rw [(decide_eq_true h21)]; decide) ?_
            intro a ht
            refine wpl rfl rfl ht (ev_pick_yes ht rfl rfl (decide_eq_true h21) rfl) ?_
            intro a ht
            refine wpList_nil ?_
            refine then_normal ?_
            refine wpc_yes ht rfl rfl ?_
            refine wpr ?_
            refine wpl rfl rfl ht (ev_move ht rfl rfl) ?_
            intro a ht
            refine wpl rfl rfl ht (ev_assign ht rfl rfl) ?_
            intro a ht
            refine wpList_nil ?_
            refine blk_normal ?_
            refine then_normal ?_
            refine wpr ?_
            refine wpl rfl rfl ht (ev_move ht rfl rfl) ?_
            intro a ht
            refine wpl rfl rfl ht (ev_arith ht rfl rfl rfl rfl) ?_
            intro a ht
            refine wpl rfl rfl ht (ev_assign ht rfl rfl) ?_
            intro a ht
            refine wpList_nil ?_
            exact then_normal ⟨q12, by omega, t20.2, t20.1, (w64 (xs0_3 + 1)), H, by omega, ht.sub ⟨rfl, rfl, rfl, rfl, rfl, rfl, rfl, rfl, rfl, trivial⟩, (hm.pick [2, 0] rfl (by decide)).pickφ [0] rfl⟩
          · replace H := ite_no h21 H
            refine wpl_yes rfl ht rfl ((decide_eq_false h21)) ?_
            refine wpl rfl rfl ht (ev_move ht rfl rfl) ?_
            intro a ht
            refine wpl_yes rfl ht rfl ((decide_eq_false h21)) ?_
            refine wpl rfl rfl ht (ev_cmp ht rfl rfl rfl rfl) ?_
            intro a ht
            refine wpl rfl rfl ht (ev_pick_no ht rfl rfl (decide_eq_false h21) rfl) ?_
            intro a ht
            refine wpList_nil ?_
            refine then_normal ?_
            by_cases h22 : t20.1 = 2
            · replace H := ite_yes h22 H
              refine wpc_yes ht rfl (decide_eq_true h22) ?_
              refine wpr ?_
              refine wpl rfl rfl ht (ev_move ht rfl rfl) ?_
              intro a ht
              refine wpl rfl rfl ht (ev_assign ht rfl rfl) ?_
              intro a ht
              refine wpList_nil ?_
              refine blk_normal ?_
              refine then_normal ?_
              refine wpr ?_
              refine wpl rfl rfl ht (ev_move ht rfl rfl) ?_
              intro a ht
              refine wpl rfl rfl ht (ev_arith ht rfl rfl rfl rfl) ?_
              intro a ht
              refine wpl rfl rfl ht (ev_assign ht rfl rfl) ?_
              intro a ht
              refine wpList_nil ?_
              exact then_normal ⟨q12, by omega, t20.2, t20.1, (w64 (xs0_3 + 1)), H, by omega, ht.sub ⟨rfl, rfl, rfl, rfl, rfl, rfl, rfl, rfl, rfl, trivial⟩, (hm.pick [2, 0] rfl (by decide)).pickφ [0] rfl⟩
            · replace H := ite_no h22 H
              refine wpc_no ht rfl (decide_eq_false h22) ?_
              refine wp_skip ?_
              refine blk_normal ?_
              refine then_normal ?_
              refine wpr ?_
              refine wpl rfl rfl ht (ev_move ht rfl rfl) ?_
              intro a ht
              refine wpl rfl rfl ht (ev_arith ht rfl rfl rfl rfl) ?_
              intro a ht
              refine wpl rfl rfl ht (ev_assign ht rfl rfl) ?_
              intro a ht
              refine wpList_nil ?_
              exact then_normal ⟨q12, by omega, t20.2, xs0_2, (w64 (xs0_3 + 1)), H, by omega, ht.sub ⟨rfl, rfl, rfl, rfl, rfl, rfl, rfl, rfl, rfl, trivial⟩, (hm.pick [2, 0] rfl (by decide)).pickφ [0] rfl⟩
        · replace H := ite_no h14 H
          refine wpc_no ht rfl (decide_eq_false h14) ?_
          refine wp_exit ?_
          refine then_exit ?_
          refine then_exit ?_
          refine blk_hit ?_
          refine then_normal ?_
          refine wp_seq ?_
          refine wpr ?_
          refine wpl rfl rfl ht (ev_move ht rfl rfl) ?_
          intro a ht
          refine wpl rfl rfl ht (ev_move ht rfl rfl) ?_
          intro a ht
          refine wpl rfl rfl ht (ev_move ht rfl rfl) ?_
          intro a ht
          obtain ⟨t23, et23, H⟩ := bind_get H
          refine wpl rfl rfl ht (ev_index_ints ht rfl rfl rfl so_22 (hm.vec_row 1 rfl) et23) ?_
          intro a ht
          refine wpl_store_int 1 rfl rfl ht hm rfl rfl rfl sz1_2 rfl et23 ?_
          intro a ht w hm
          refine wpList_nil ?_
          refine then_normal ?_
          refine wp_seq ?_
          refine wpr ?_
          refine wpl rfl rfl ht (ev_move ht rfl rfl) ?_
          intro a ht
          refine wpl rfl rfl ht (ev_assign ht rfl rfl) ?_
          intro a ht
          refine wpList_nil ?_
          refine then_normal ?_
          refine wp_ret ?_
          have hres := ht.res (P := Try.prog) (w := w) (rs := [.tmp 6]) (vs := [.int .i64 xs0_2]) (.tmp rfl .nil)
          obtain rfl := Option.some.inj H
          exact leave ht rfl hres ⟨rfl, ((hm.pick [1] rfl (by decide)).pickφ [] rfl).post fun _ h => h⟩
      · replace H := ite_no h13 H
        refine wpl_no rfl rfl ht rfl (by rw [(decide_eq_false h13)]; decide) ?_
        intro a ht
        refine wpl_no rfl rfl ht rfl (by rw [(decide_eq_false h13)]; decide) ?_
        intro a ht
        refine wpl_no rfl rfl ht rfl (by rw [(decide_eq_false h13)]; decide) ?_
        intro a ht
        refine wpl rfl rfl ht (ev_pick_no ht rfl rfl (decide_eq_false h13) rfl) ?_
        intro a ht
        refine wpList_nil ?_
        refine then_normal ?_
        refine wpc_no ht rfl rfl ?_
        refine wp_exit ?_
        refine then_exit ?_
        refine then_exit ?_
        refine blk_hit ?_
        refine then_normal ?_
        refine wp_seq ?_
        refine wpr ?_
        refine wpl rfl rfl ht (ev_move ht rfl rfl) ?_
        intro a ht
        refine wpl rfl rfl ht (ev_move ht rfl rfl) ?_
        intro a ht
        refine wpl rfl rfl ht (ev_move ht rfl rfl) ?_
        intro a ht
        obtain ⟨t24, et24, H⟩ := bind_get H
        refine wpl rfl rfl ht (ev_index_ints ht rfl rfl rfl so_22 (hm.vec_row 1 rfl) et24) ?_
        intro a ht
        refine wpl_store_int 1 rfl rfl ht hm rfl rfl rfl sz1_2 rfl et24 ?_
        intro a ht w hm
        refine wpList_nil ?_
        refine then_normal ?_
        refine wp_seq ?_
        refine wpr ?_
        refine wpl rfl rfl ht (ev_move ht rfl rfl) ?_
        intro a ht
        refine wpl rfl rfl ht (ev_assign ht rfl rfl) ?_
        intro a ht
        refine wpList_nil ?_
        refine then_normal ?_
        refine wp_ret ?_
        have hres := ht.res (P := Try.prog) (w := w) (rs := [.tmp 6]) (vs := [.int .i64 xs0_2]) (.tmp rfl .nil)
        obtain rfl := Option.some.inj H
        exact leave ht rfl hres ⟨rfl, ((hm.pick [1] rfl (by decide)).pickφ [] rfl).post fun _ h => h⟩
    · replace H := ite_no h6 H
      refine wpc_no ht rfl (decide_eq_false h6) ?_
      refine wp_skip ?_
      refine then_normal ?_
      refine wp_seq ?_
      refine wpr ?_
      refine wpl rfl rfl ht (ev_move ht rfl rfl) ?_
      intro a ht
      refine wpl rfl rfl ht (ev_move ht rfl rfl) ?_
      intro a ht
      refine wpl rfl rfl ht (ev_move ht rfl rfl) ?_
      intro a ht
      obtain ⟨t25, et25, H⟩ := bind_get H
      refine wpl rfl rfl ht (ev_index_ints ht rfl rfl rfl so_22 (hm.vec_row 0 rfl) et25) ?_
      intro a ht
      refine wpl_store_int 0 rfl rfl ht hm rfl rfl rfl sz1_2 rfl et25 ?_
      intro a ht w hm
      refine wpList_nil ?_
      refine then_normal ?_
      refine wp_seq ?_
      refine wpr ?_
      refine wpl rfl rfl ht (ev_move ht rfl rfl) ?_
      intro a ht
      refine wpl rfl rfl ht (ev_assign ht rfl rfl) ?_
      intro a ht
      refine wpList_nil ?_
      refine then_normal ?_
      refine wp_ret ?_
      have hres := ht.res (P := Try.prog) (w := w) (rs := [.tmp 6]) (vs := [.int .i64 t5]) (.tmp rfl .nil)
      obtain rfl := Option.some.inj H
      exact leave ht rfl hres ⟨rfl, ((hm.pick [0] rfl (by decide)).pickφ [] rfl).post fun _ h => h⟩

/-! ### spec_OutcomeOf: function 31 (loop.example/g01362/spec.OutcomeOf) -/
def spec_OutcomeOf.f (k : Nat) (n_ : Int) (list : List Int) : Option (Int × Int) := (spec_l09Code.f k n_ list).bind fun t1 => if t1 ≠ 0 then (some (0, t1)) else ((spec_l09Table.f k n_).bind fun t3 => (spec_l09Outcome.f k n_ list t3).bind fun t7 => some (t7.1, 0))
set_option maxRecDepth 100000 in
set_option maxHeartbeats 1000000 in
theorem spec_OutcomeOf.calls (k : Nat) (X : List Nat) (w0 : World) (A : Option Addr) (c : Nat) (m : Nat) (n_ : Int) (list : List Int) (r : Int × Int)
    (hp : Pre X w0 [] [IntsAt A c m list]) (H : spec_OutcomeOf.f k n_ list = some r) :
    Calls Try.prog 31 [.int .i64 n_, .slice A m c].toArray w0 (Ret fun v w => v = .tuple [.int .i64 r.1, .int .i64 r.2].toArray ∧ Post X (fps []) w0 [] [] w) := by
  unfold spec_OutcomeOf.f at H
  refine enterM (n := 18) hp Try.func31 rfl rfl (Nat.le_of_ble_eq_true rfl) fun a w ht hm => ?_
  refine wp_seq ?_
  refine wpr ?_
  refine wpl rfl rfl ht (ev_assign ht rfl rfl) ?_
  intro a ht
  refine wpl rfl rfl ht (ev_assign ht rfl rfl) ?_
  intro a ht
  refine wpList_nil ?_
  refine then_normal ?_
  refine wp_seq ?_
  refine wp_seq ?_
  refine wpr ?_
  refine wpl rfl rfl ht (ev_move ht rfl rfl) ?_
  intro a ht
  refine wpl rfl rfl ht (ev_move ht rfl rfl) ?_
  intro a ht
  obtain ⟨t1, et1, H⟩ := bind_get H
  have hcall := spec_l09Code.calls k _ _ A c m n_ list _ ((fun (hq : Ms _ _ _ ([] ++ []) _ _) => hq.lend (φp := [IntsAt A c m list]) (allRO_cons (hq.lendFact 0 rfl) (allRO_nil))) (hm.pick (own' := [] ++ []) [] rfl (by decide))) et1
  refine wpl_call _ rfl rfl ht rfl rfl rfl rfl can_41 hcall ?_
  clear hcall
  rintro _ w ⟨rfl, hpost⟩ a ht
  replace hm := (hm.pick (own' := [] ++ []) [] rfl (by decide)).backL hpost
  clear hpost
  refine wpl rfl rfl ht (ev_assign ht rfl rfl) ?_
  intro a ht
  refine wpList_nil ?_
  refine then_normal ?_
  refine wp_seq ?_
  refine wpr ?_
  refine wpl rfl rfl ht (ev_move ht rfl rfl) ?_
  intro a ht
  refine wpl rfl rfl ht (ev_cmp ht rfl rfl rfl rfl) ?_
  intro a ht
  refine wpList_nil ?_
  refine then_normal ?_
  by_cases h2 : t1 ≠ 0
  · replace H := ite_yes h2 H
    refine wpc_yes ht rfl (decide_eq_true h2) ?_
    refine wp_seq ?_
    refine wpr ?_
    refine wpl rfl rfl ht (ev_move ht rfl rfl) ?_
    intro a ht
    refine wpl rfl rfl ht (ev_assign ht rfl rfl) ?_
    intro a ht
    refine wpl rfl rfl ht (ev_assign ht rfl rfl) ?_
    intro a ht
    refine wpList_nil ?_
    refine then_normal ?_
    refine wp_ret ?_
    refine then_ret ?_
    have hres := ht.res (P := Try.prog) (w := w) (rs := [.tmp 4, .tmp 5]) (vs := [.int .i64 0, .int .i64 t1]) (.tmp rfl (.tmp rfl .nil))
    obtain rfl := Option.some.inj H
    exact leave ht rfl hres ⟨rfl, ((hm.pick [] rfl (by decide)).pickφ [] rfl).post fun _ h => h⟩
  · replace H := ite_no h2 H
    refine wpc_no ht rfl (decide_eq_false h2) ?_
    refine wp_skip ?_
    refine then_normal ?_
    refine wp_seq ?_
    refine wpr ?_
    refine wpl rfl rfl ht (ev_move ht rfl rfl) ?_
    intro a ht
    refine wpl rfl rfl ht (ev_move ht rfl rfl) ?_
    intro a ht
    refine wpl rfl rfl ht (ev_move ht rfl rfl) ?_
    intro a ht
    obtain ⟨t3, et3, H⟩ := bind_get H
    have hcall := spec_l09Table.calls k _ _ n_ _ ((fun (hq : Ms _ _ _ ([] ++ []) _ _) => hq.lend (φp := []) (allRO_nil)) (hm.pick (own' := [] ++ []) [] rfl (by decide))) et3
    refine wpl_call _ rfl rfl ht rfl rfl rfl rfl can_42 hcall ?_
    clear hcall
    rintro _ w ⟨A4, c5, m6, rfl, hpost⟩ a ht
    replace hm := (hm.pick (own' := [] ++ []) [] rfl (by decide)).backL hpost
    clear hpost
    obtain ⟨t7, et7, H⟩ := bind_get H
    have hcall := spec_l09Outcome.calls k _ _ A c m A4 c5 m6 n_ list t3 _ ((fun (hq : Ms _ _ _ ([.vec A4 c5 2 1 m6 (ints t3)] ++ []) _ _) => hq.lend (φp := [IntsAt A c m list]) (allRO_cons (hq.lendFact 0 rfl) (allRO_nil))) (hm.pick (own' := [.vec A4 c5 2 1 m6 (ints t3)] ++ []) [0] rfl (by decide))) et7
    refine wpl_call _ rfl rfl ht rfl rfl rfl rfl can_63 hcall ?_
    clear hcall
    rintro _ w ⟨rfl, hpost⟩ a ht
    replace hm := (hm.pick (own' := [.vec A4 c5 2 1 m6 (ints t3)] ++ []) [0] rfl (by decide)).backL hpost
    clear hpost
    refine wpl rfl rfl ht (ev_assign ht rfl rfl) ?_
    intro a ht
    refine wpl rfl rfl ht (ev_assign ht rfl rfl) ?_
    intro a ht
    refine wpList_nil ?_
    refine then_normal ?_
    refine wp_ret ?_
    have hres := ht.res (P := Try.prog) (w := w) (rs := [.tmp 4, .tmp 5]) (vs := [.int .i64 t7.1, .int .i64 0]) (.tmp rfl (.tmp rfl .nil))
    obtain rfl := Option.some.inj H
    exact leave ht rfl hres ⟨rfl, ((hm.pick [] rfl (by decide)).pickφ [] rfl).post fun _ h => h⟩

/-! ### impl_in: function 58 (loop.example/g01362/impl.in) -/
def impl_in.f (n_ : Int) (low : Int) (high : Int) : Option (Bool) := if n_ ≥ low then (some (decide (n_ ≤ high))) else (some false)
set_option maxRecDepth 100000 in
set_option maxHeartbeats 1000000 in
theorem impl_in.calls (X : List Nat) (w0 : World)  (n_ : Int) (low : Int) (high : Int) (r : Bool)
    (hp : Pre X w0 [] []) (H : impl_in.f n_ low high = some r) :
    Calls Try.prog 58 [.int .i64 n_, .int .i64 low, .int .i64 high].toArray w0 (Ret fun v w => v = .bool r ∧ Post X (fps []) w0 [] [] w) := by
  unfold impl_in.f at H
  refine enterM (n := 15) hp Try.func58 rfl rfl (Nat.le_of_ble_eq_true rfl) fun a w ht hm => ?_
  refine wp_seq ?_
  refine wpr ?_
  refine wpl rfl rfl ht (ev_assign ht rfl rfl) ?_
  intro a ht
  refine wpList_nil ?_
  refine then_normal ?_
  refine wp_seq ?_
  refine wpr ?_
  refine wpl rfl rfl ht (ev_move ht rfl rfl) ?_
  intro a ht
  refine wpl rfl rfl ht (ev_move ht rfl rfl) ?_
  intro a ht
  refine wpl rfl rfl ht (ev_cmp ht rfl rfl rfl rfl) ?_
  intro a ht
  refine wpl rfl rfl ht (ev_move ht rfl rfl) ?_
  intro a ht
  by_cases h1 : n_ ≥ low
  · replace H := ite_yes h1 H
    refine wpl_yes rfl ht rfl ((decide_eq_true h1)) ?_
    refine wpl rfl rfl ht (ev_move ht rfl rfl) ?_
    intro a ht
    refine wpl_yes rfl ht rfl ((decide_eq_true h1)) ?_
    refine wpl rfl rfl ht (ev_move ht rfl rfl) ?_
    intro a ht
    refine wpl_yes rfl ht rfl ((decide_eq_true h1)) ?_
    refine wpl rfl rfl ht (ev_cmp ht rfl rfl rfl rfl) ?_
    intro a ht
    refine wpl rfl rfl ht (ev_pick_yes ht rfl rfl (decide_eq_true h1) rfl) ?_
    intro a ht
    refine wpl rfl rfl ht (ev_assign ht rfl rfl) ?_
    intro a ht
    refine wpList_nil ?_
    refine then_normal ?_
    refine wp_ret ?_
    have hres := ht.res (P := Try.prog) (w := w) (rs := [.tmp 6]) (vs := [.bool (decide (n_ ≤ high))]) (.tmp rfl .nil)
    obtain rfl := Option.some.inj H
    exact leave ht rfl hres ⟨rfl, ((hm.pick [] rfl (by decide)).pickφ [] rfl).post fun _ h => h⟩
  · replace H := ite_no h1 H
    refine wpl_no rfl rfl ht rfl (by rw [(decide_eq_false h1)]; decide) ?_
    intro a ht
    refine wpl_no rfl rfl ht rfl (by rw [(decide_eq_false h1)]; decide) ?_
    intro a ht
    refine wpl_no rfl rfl ht rfl (by rw [(decide_eq_false h1)]; decide) ?_
    intro a ht
    refine wpl rfl rfl ht (ev_pick_no ht rfl rfl (decide_eq_false h1) rfl) ?_
    intro a ht
    refine wpl rfl rfl ht (ev_assign ht rfl rfl) ?_
    intro a ht
    refine wpList_nil ?_
    refine then_normal ?_
    refine wp_ret ?_
    have hres := ht.res (P := Try.prog) (w := w) (rs := [.tmp 6]) (vs := [.bool false]) (.tmp rfl .nil)
    obtain rfl := Option.some.inj H
    exact leave ht rfl hres ⟨rfl, ((hm.pick [] rfl (by decide)).pickφ [] rfl).post fun _ h => h⟩

/-! ### impl_size_int64: function 59 (loop.example/g01362/impl.size[int64]) -/
def impl_size_int64.f (list : List Int) : Option (Int) := some (list.length : Int)
set_option maxRecDepth 100000 in
set_option maxHeartbeats 1000000 in
theorem impl_size_int64.calls (X : List Nat) (w0 : World) (A : Option Addr) (c : Nat) (m : Nat) (list : List Int) (r : Int)
    (hp : Pre X w0 [] [IntsAt A c m list]) (H : impl_size_int64.f list = some r) :
    Calls Try.prog 59 [.slice A m c].toArray w0 (Ret fun v w => v = .int .i64 r ∧ Post X (fps []) w0 [] [] w) := by
  unfold impl_size_int64.f at H
  refine enterM (n := 5) hp Try.func59 rfl rfl (Nat.le_of_ble_eq_true rfl) fun a w ht hm => ?_
  refine wp_seq ?_
  refine wpr ?_
  refine wpl rfl rfl ht (ev_assign ht rfl rfl) ?_
  intro a ht
  refine wpList_nil ?_
  refine then_normal ?_
  refine wp_seq ?_
  refine wpr ?_
  refine wpl rfl rfl ht (ev_move ht rfl rfl) ?_
  intro a ht
  refine wpl rfl rfl ht (ev_len_of ht rfl rfl und_22 (hm.fact (φ := IntsAt A c m list) 0 rfl)) ?_
  intro a ht
  refine wpl rfl rfl ht (ev_assign ht rfl rfl) ?_
  intro a ht
  refine wpList_nil ?_
  refine then_normal ?_
  refine wp_ret ?_
  have hres := ht.res (P := Try.prog) (w := w) (rs := [.tmp 2]) (vs := [.int .i64 (list.length : Int)]) (.tmp rfl .nil)
  obtain rfl := Option.some.inj H
  exact leave ht rfl hres ⟨rfl, ((hm.pick [] rfl (by decide)).pickφ [] rfl).post fun _ h => h⟩

/-! ### impl_areIn_1: function 88 (loop.example/g01362/impl.areIn$1) -/
def impl_areIn_1.f (n_ : Int) (x : Int) (x2 : Int) : Option (Bool) := (impl_in.f n_ x x2).bind fun t1 => some !t1
set_option maxRecDepth 100000 in
set_option maxHeartbeats 1000000 in
theorem impl_areIn_1.calls (X : List Nat) (w0 : World) (b : Nat) (b2 : Nat) (n_ : Int) (x : Int) (x2 : Int) (r : Bool)
    (hp : Pre X w0 [.blk b 2 [.int .i64 x], .blk b2 2 [.int .i64 x2]] []) (H : impl_areIn_1.f n_ x x2 = some r) :
    Calls Try.prog 88 [.int .i64 n_, .pointer (some ⟨b, 0, none⟩), .pointer (some ⟨b2, 0, none⟩)].toArray w0 (Ret fun v w => v = .bool r ∧ Post X (fps [.blk b 2 [.int .i64 x], .blk b2 2 [.int .i64 x2]]) w0 [.blk b 2 [.int .i64 x], .blk b2 2 [.int .i64 x2]] [] w) := by
  unfold impl_areIn_1.f at H
  refine enterM (n := 10) hp Try.func88 rfl rfl (Nat.le_of_ble_eq_true rfl) fun a w ht hm => ?_
  refine wp_seq ?_
  refine wpr ?_
  refine wpl rfl rfl ht (ev_assign ht rfl rfl) ?_
  intro a ht
  refine wpList_nil ?_
  refine then_normal ?_
  refine wp_seq ?_
  refine wpr ?_
  refine wpl rfl rfl ht (ev_move ht rfl rfl) ?_
  intro a ht
  refine wpl rfl rfl ht (ev_load ht rfl rfl sc_2 (hm.blk_cell 0 rfl rfl)) ?_
  intro a ht
  refine wpl rfl rfl ht (ev_load ht rfl rfl sc_2 (hm.blk_cell 1 rfl rfl)) ?_
  intro a ht
  obtain ⟨t1, et1, H⟩ := bind_get H
  have hcall := impl_in.calls _ _ n_ x x2 _ ((fun (hq : Ms _ _ _ ([] ++ [.blk b 2 [.int .i64 x], .blk b2 2 [.int .i64 x2]]) _ _) => hq.lend (φp := []) (allRO_nil)) (hm.pick (own' := [] ++ [.blk b 2 [.int .i64 x], .blk b2 2 [.int .i64 x2]]) [0, 1] rfl (by decide))) et1
  refine wpl_call _ rfl rfl ht rfl rfl rfl rfl can_58 hcall ?_
  clear hcall
  rintro _ w ⟨rfl, hpost⟩ a ht
  replace hm := (hm.pick (own' := [] ++ [.blk b 2 [.int .i64 x], .blk b2 2 [.int .i64 x2]]) [0, 1] rfl (by decide)).backL hpost
  clear hpost
  refine wpl rfl rfl ht (ev_not ht rfl rfl) ?_
  intro a ht
  refine wpl rfl rfl ht (ev_assign ht rfl rfl) ?_
  intro a ht
  refine wpList_nil ?_
  refine then_normal ?_
  refine wp_ret ?_
  have hres := ht.res (P := Try.prog) (w := w) (rs := [.tmp 4]) (vs := [.bool !t1]) (.tmp rfl .nil)
  obtain rfl := Option.some.inj H
  exact leave ht rfl hres ⟨rfl, ((hm.pick [0, 1] rfl (by decide)).pickφ [] rfl).post fun _ h => h⟩

/-! ### slices_IndexFunc_int64_int64__areIn_1: function 91 (slices.IndexFunc[[]int64,int64]) -/
def slices_IndexFunc_int64_int64__areIn_1.l0 : Nat → List Int → Int → Int → Int → Option (Int)
  | 0, _, _, _, _ => none
  | q1 + 1, s, f, f2, xs0_1 => if xs0_1 < (s.length : Int) then ((getI s xs0_1).bind fun t3 => (impl_areIn_1.f t3 f f2).bind fun t4 => if t4 = true then (some xs0_1) else (slices_IndexFunc_int64_int64__areIn_1.l0 q1 s f f2 (w64 (xs0_1 + 1)))) else (some (-1))
def slices_IndexFunc_int64_int64__areIn_1.f (k : Nat) (s : List Int) (f : Int) (f2 : Int) : Option (Int) := slices_IndexFunc_int64_int64__areIn_1.l0 k s f f2 0
set_option maxRecDepth 100000 in
set_option maxHeartbeats 1000000 in
theorem slices_IndexFunc_int64_int64__areIn_1.calls (k : Nat) (X : List Nat) (w0 : World) (A : Option Addr) (c : Nat) (m : Nat) (b : Nat) (b2 : Nat) (s : List Int) (f : Int) (f2 : Int) (r : Int)
    (hp : Pre X w0 [.blk b 2 [.int .i64 f], .blk b2 2 [.int .i64 f2]] [IntsAt A c m s]) (H : slices_IndexFunc_int64_int64__areIn_1.f k s f f2 = some r) :
    Calls Try.prog 91 [.slice A m c, .func (.func 88) [].toArray [.pointer (some ⟨b, 0, none⟩), .pointer (some ⟨b2, 0, none⟩)].toArray].toArray w0 (Ret fun v w => v = .int .i64 r ∧ Post X (fps [.blk b 2 [.int .i64 f], .blk b2 2 [.int .i64 f2]]) w0 [.blk b 2 [.int .i64 f], .blk b2 2 [.int .i64 f2]] [] w) := by
  unfold slices_IndexFunc_int64_int64__areIn_1.f at H
  refine enterM (n := 19) hp Try.func91 rfl rfl (Nat.le_of_ble_eq_true rfl) fun a w ht hm => ?_
  refine wp_seq ?_
  refine wpr ?_
  refine wpl rfl rfl ht (ev_assign ht rfl rfl) ?_
  intro a ht
  refine wpList_nil ?_
  refine then_normal ?_
  refine wp_seq ?_
  refine wp_seq ?_
  refine wpr ?_
  refine wpl rfl rfl ht (ev_move ht rfl rfl) ?_
  intro a ht
  refine wpl rfl rfl ht (ev_len_of ht rfl rfl und_22 (hm.fact (φ := IntsAt A c m s) 0 rfl)) ?_
  intro a ht
  refine wpl rfl rfl ht (ev_move ht rfl rfl) ?_
  intro a ht
  refine wpList_nil ?_
  refine then_normal ?_
  refine wp_block ?_
  refine wpLoop (fun q a w => ∃ (xs0_1 : Int), slices_IndexFunc_int64_int64__areIn_1.l0 q s f f2 xs0_1 = some r ∧ q ≤ k ∧ Tm 19 [(0, .slice A m c), (1, .func (.func 88) [].toArray [.pointer (some ⟨b, 0, none⟩), .pointer (some ⟨b2, 0, none⟩)].toArray), (4, .int .i64 0), (7, .int .i64 (s.length : Int)), (8, .int .i64 xs0_1)] a ∧ Ms X (fps [.blk b 2 [.int .i64 f], .blk b2 2 [.int .i64 f2]]) w0 [.blk b 2 [.int .i64 f], .blk b2 2 [.int .i64 f2]] [IntsAt A c m s] w) (k0 := k) ⟨0, H, Nat.le_refl _, ht.sub ⟨rfl, rfl, rfl, rfl, rfl, trivial⟩, (hm.pick [0, 1] rfl (by decide)).pickφ [0] rfl⟩ ?_
  clear H ht hm
  intro q1 a w hJ
  obtain ⟨xs0_1, H, hqq1, ht, hm⟩ := hJ
  cases q1 with
  | zero => cases H
  | succ q1 =>
  rw [slices_IndexFunc_int64_int64__areIn_1.l0] at H
  refine wp_seq ?_
  refine wpr ?_
  refine wpl rfl rfl ht (ev_cmp ht rfl rfl rfl rfl) ?_
  intro a ht
  refine wpList_nil ?_
  refine then_normal ?_
  refine wp_seq ?_
  by_cases h2 : xs0_1 < (s.length : Int)
  · replace H := ite_yes h2 H
    refine wpc_yes ht rfl (decide_eq_true h2) ?_
    refine wp_skip ?_
    refine then_normal ?_
    refine wp_seq ?_
    refine wp_block ?_
    refine wp_seq ?_
    refine wpr ?_
    refine wpl rfl rfl ht (ev_move ht rfl rfl) ?_
    intro a ht
    refine wpl rfl rfl ht (ev_assign ht rfl rfl) ?_
    intro a ht
    refine wpList_nil ?_
    refine then_normal ?_
    refine wp_seq ?_
    refine wpr ?_
    refine wpl rfl rfl ht (ev_move ht rfl rfl) ?_
    intro a ht
    refine wpl rfl rfl ht (ev_move ht rfl rfl) ?_
    intro a ht
    refine wpl rfl rfl ht (ev_move ht rfl rfl) ?_
    intro a ht
    obtain ⟨t3, et3, H⟩ := bind_get H
    refine wpl rfl rfl ht (ev_index_ints ht rfl rfl rfl so_22 (hm.fact (φ := IntsAt A c m s) 0 rfl) et3) ?_
    intro a ht
    refine wpl rfl rfl ht (ev_load ht rfl rfl sc_2 (RowAt.cell (hm.fact (φ := IntsAt A c m s) 0 rfl) (ints_get et3) rfl)) ?_
    intro a ht
    obtain ⟨t4, et4, H⟩ := bind_get H
    have hcall := impl_areIn_1.calls _ _ b b2 t3 f f2 _ ((fun (hq : Ms _ _ _ ([.blk b 2 [.int .i64 f], .blk b2 2 [.int .i64 f2]] ++ []) _ _) => hq.lend (φp := []) (allRO_nil)) (hm.pick (own' := [.blk b 2 [.int .i64 f], .blk b2 2 [.int .i64 f2]] ++ []) [0, 1] rfl (by decide))) et4
    refine wpl_call _ rfl rfl ht rfl rfl rfl rfl can_88 hcall ?_
    clear hcall
    rintro _ w ⟨rfl, hpost⟩ a ht
    replace hm := (hm.pick (own' := [.blk b 2 [.int .i64 f], .blk b2 2 [.int .i64 f2]] ++ []) [0, 1] rfl (by decide)).backL hpost
    clear hpost
    refine wpList_nil ?_
    refine then_normal ?_
    by_cases h5 : t4 = true
    · replace H := ite_yes h5 H
      refine wpc_yes ht rfl h5 ?_
      refine wp_seq ?_
      refine wpr ?_
      refine wpl rfl rfl ht (ev_move ht rfl rfl) ?_
      intro a ht
      refine wpl rfl rfl ht (ev_assign ht rfl rfl) ?_
      intro a ht
      refine wpList_nil ?_
      refine then_normal ?_
      refine wp_ret ?_
      refine blk_ret ?_
      refine then_ret ?_
      refine then_ret ?_
      refine blk_ret ?_
      refine then_ret ?_
      have hres := ht.res (P := Try.prog) (w := w) (rs := [.tmp 4]) (vs := [.int .i64 xs0_1]) (.tmp rfl .nil)
      obtain rfl := Option.some.inj H
      exact leave ht rfl hres ⟨rfl, ((hm.pick [0, 1] rfl (by decide)).pickφ [] rfl).post fun _ h => h⟩
    · replace H := ite_no h5 H
      refine wpc_no ht rfl (Bool.eq_false_iff.mpr h5) ?_
      refine wp_skip ?_
      refine blk_normal ?_
      refine then_normal ?_
      refine wpr ?_
      refine wpl rfl rfl ht (ev_arith ht rfl rfl rfl rfl) ?_
      intro a ht
      refine wpl rfl rfl ht (ev_move ht rfl rfl) ?_
      intro a ht
      refine wpList_nil ?_
      exact then_normal ⟨q1, by omega, (w64 (xs0_1 + 1)), H, by omega, ht.sub ⟨rfl, rfl, rfl, rfl, rfl, trivial⟩, (hm.pick [0, 1] rfl (by decide)).pickφ [0] rfl⟩
  · replace H := ite_no h2 H
    refine wpc_no ht rfl (decide_eq_false h2) ?_
    refine wp_exit ?_
    refine then_exit ?_
    refine then_exit ?_
    refine blk_hit ?_
    refine then_normal ?_
    refine wp_seq ?_
    refine wpr ?_
    refine wpl rfl rfl ht (ev_assign ht rfl rfl) ?_
    intro a ht
    refine wpList_nil ?_
    refine then_normal ?_
    refine wp_ret ?_
    have hres := ht.res (P := Try.prog) (w := w) (rs := [.tmp 4]) (vs := [.int .i64 (-1)]) (.tmp rfl .nil)
    obtain rfl := Option.some.inj H
    exact leave ht rfl hres ⟨rfl, ((hm.pick [0, 1] rfl (by decide)).pickφ [] rfl).post fun _ h => h⟩

/-! ### slices_ContainsFunc_int64_int64__areIn_1: function 81 (slices.ContainsFunc[[]int64,int64]) -/
def slices_ContainsFunc_int64_int64__areIn_1.f (k : Nat) (s : List Int) (f : Int) (f2 : Int) : Option (Bool) := (slices_IndexFunc_int64_int64__areIn_1.f k s f f2).bind fun t1 => some (decide (t1 ≥ 0))
set_option maxRecDepth 100000 in
set_option maxHeartbeats 1000000 in
theorem slices_ContainsFunc_int64_int64__areIn_1.calls (k : Nat) (X : List Nat) (w0 : World) (A : Option Addr) (c : Nat) (m : Nat) (b : Nat) (b2 : Nat) (s : List Int) (f : Int) (f2 : Int) (r : Bool)
    (hp : Pre X w0 [.blk b 2 [.int .i64 f], .blk b2 2 [.int .i64 f2]] [IntsAt A c m s]) (H : slices_ContainsFunc_int64_int64__areIn_1.f k s f f2 = some r) :
    Calls Try.prog 81 [.slice A m c, .func (.func 88) [].toArray [.pointer (some ⟨b, 0, none⟩), .pointer (some ⟨b2, 0, none⟩)].toArray].toArray w0 (Ret fun v w => v = .bool r ∧ Post X (fps [.blk b 2 [.int .i64 f], .blk b2 2 [.int .i64 f2]]) w0 [.blk b 2 [.int .i64 f], .blk b2 2 [.int .i64 f2]] [] w) := by
  unfold slices_ContainsFunc_int64_int64__areIn_1.f at H
  refine enterM (n := 9) hp Try.func81 rfl rfl (Nat.le_of_ble_eq_true rfl) fun a w ht hm => ?_
  refine wp_seq ?_
  refine wpr ?_
  refine wpl rfl rfl ht (ev_assign ht rfl rfl) ?_
  intro a ht
  refine wpList_nil ?_
  refine then_normal ?_
  refine wp_seq ?_
  refine wpr ?_
  refine wpl rfl rfl ht (ev_move ht rfl rfl) ?_
  intro a ht
  refine wpl rfl rfl ht (ev_move ht rfl rfl) ?_
  intro a ht
  obtain ⟨t1, et1, H⟩ := bind_get H
  have hcall := slices_IndexFunc_int64_int64__areIn_1.calls k _ _ A c m b b2 s f f2 _ ((fun (hq : Ms _ _ _ ([.blk b 2 [.int .i64 f], .blk b2 2 [.int .i64 f2]] ++ []) _ _) => hq.lend (φp := [IntsAt A c m s]) (allRO_cons (hq.lendFact 0 rfl) (allRO_nil))) (hm.pick (own' := [.blk b 2 [.int .i64 f], .blk b2 2 [.int .i64 f2]] ++ []) [0, 1] rfl (by decide))) et1
  refine wpl_call _ rfl rfl ht rfl rfl rfl rfl can_91 hcall ?_
  clear hcall
  rintro _ w ⟨rfl, hpost⟩ a ht
  replace hm := (hm.pick (own' := [.blk b 2 [.int .i64 f], .blk b2 2 [.int .i64 f2]] ++ []) [0, 1] rfl (by decide)).backL hpost
  clear hpost
  refine wpl rfl rfl ht (ev_cmp ht rfl rfl rfl rfl) ?_
  intro a ht
  refine wpl rfl rfl ht (ev_assign ht rfl rfl) ?_
  intro a ht
  refine wpList_nil ?_
  refine then_normal ?_
  refine wp_ret ?_
  have hres := ht.res (P := Try.prog) (w := w) (rs := [.tmp 4]) (vs := [.bool (decide (t1 ≥ 0))]) (.tmp rfl .nil)
  obtain rfl := Option.some.inj H
  exact leave ht rfl hres ⟨rfl, ((hm.pick [0, 1] rfl (by decide)).pickφ [] rfl).post fun _ h => h⟩

/-! ### impl_areIn: function 71 (loop.example/g01362/impl.areIn) -/
def impl_areIn.f (k : Nat) (list : List Int) (many : Int) (low : Int) (high : Int) : Option (Bool) := (impl_size_int64.f list).bind fun t3 => if t3 = many then ((slices_ContainsFunc_int64_int64__areIn_1.f k list low high).bind fun t5 => some !t5) else (some false)
set_option maxRecDepth 100000 in
set_option maxHeartbeats 1000000 in
theorem impl_areIn.calls (k : Nat) (X : List Nat) (w0 : World) (A : Option Addr) (c : Nat) (m : Nat) (list : List Int) (many : Int) (low : Int) (high : Int) (r : Bool)
    (hp : Pre X w0 [] [IntsAt A c m list]) (H : impl_areIn.f k list many low high = some r) :
    Calls Try.prog 71 [.slice A m c, .int .i64 many, .int .i64 low, .int .i64 high].toArray w0 (Ret fun v w => v = .bool r ∧ Post X (fps []) w0 [] [] w) := by
  unfold impl_areIn.f at H
  refine enterM (n := 19) hp Try.func71 rfl rfl (Nat.le_of_ble_eq_true rfl) fun a w ht hm => ?_
  refine wp_seq ?_
  refine wpr ?_
  refine wpl_box rfl rfl ht hm rfl rfl rfl ?_
  intro b1 a ht w hm
  refine wpl_box rfl rfl ht hm rfl rfl rfl ?_
  intro b2 a ht w hm
  refine wpl rfl rfl ht (ev_assign ht rfl rfl) ?_
  intro a ht
  refine wpList_nil ?_
  refine then_normal ?_
  refine wp_seq ?_
  refine wpr ?_
  refine wpl rfl rfl ht (ev_move ht rfl rfl) ?_
  intro a ht
  obtain ⟨t3, et3, H⟩ := bind_get H
  have hcall := impl_size_int64.calls _ _ A c m list _ ((fun (hq : Ms _ _ _ ([] ++ [.blk b2 2 [.int .i64 high], .blk b1 2 [.int .i64 low]]) _ _) => hq.lend (φp := [IntsAt A c m list]) (allRO_cons (hq.lendFact 0 rfl) (allRO_nil))) (hm.pick (own' := [] ++ [.blk b2 2 [.int .i64 high], .blk b1 2 [.int .i64 low]]) [0, 1] rfl (by decide))) et3
  refine wpl_call _ rfl rfl ht rfl rfl rfl rfl can_59 hcall ?_
  clear hcall
  rintro _ w ⟨rfl, hpost⟩ a ht
  replace hm := (hm.pick (own' := [] ++ [.blk b2 2 [.int .i64 high], .blk b1 2 [.int .i64 low]]) [0, 1] rfl (by decide)).backL hpost
  clear hpost
  refine wpl rfl rfl ht (ev_move ht rfl rfl) ?_
  intro a ht
  refine wpl rfl rfl ht (ev_cmp ht rfl rfl rfl rfl) ?_
  intro a ht
  refine wpl rfl rfl ht (ev_move ht rfl rfl) ?_
  intro a ht
  by_cases h4 : t3 = many
  · replace H := ite_yes h4 H
    refine wpl_yes rfl ht rfl ((decide_eq_true h4)) ?_
    refine wpl rfl rfl ht (ev_move ht rfl rfl) ?_
    intro a ht
    refine wpl_yes rfl ht rfl ((decide_eq_true h4)) ?_
    refine wpl rfl rfl ht (ev_makeFunc ht rfl rfl rfl) ?_
    intro a ht
    refine wpl_yes rfl ht rfl ((decide_eq_true h4)) ?_
    obtain ⟨t5, et5, H⟩ := bind_get H
    have hcall := slices_ContainsFunc_int64_int64__areIn_1.calls k _ _ A c m b1 b2 list low high _ ((fun (hq : Ms _ _ _ ([.blk b1 2 [.int .i64 low], .blk b2 2 [.int .i64 high]] ++ []) _ _) => hq.lend (φp := [IntsAt A c m list]) (allRO_cons (hq.lendFact 0 rfl) (allRO_nil))) (hm.pick (own' := [.blk b1 2 [.int .i64 low], .blk b2 2 [.int .i64 high]] ++ []) [1, 0] rfl (by decide))) et5
    refine wpl_call _ rfl rfl ht rfl rfl rfl rfl can_81 hcall ?_
    clear hcall
    rintro _ w ⟨rfl, hpost⟩ a ht
    replace hm := (hm.pick (own' := [.blk b1 2 [.int .i64 low], .blk b2 2 [.int .i64 high]] ++ []) [1, 0] rfl (by decide)).backL hpost
    clear hpost
    refine wpl_yes rfl ht rfl ((decide_eq_true h4)) ?_
    refine wpl rfl rfl ht (ev_not ht rfl rfl) ?_
    intro a ht
    refine wpl rfl rfl ht (ev_pick_yes ht rfl rfl (decide_eq_true h4) rfl) ?_
    intro a ht
    refine wpl rfl rfl ht (ev_assign ht rfl rfl) ?_
    intro a ht
    refine wpList_nil ?_
    refine then_normal ?_
    refine wp_ret ?_
    have hres := ht.res (P := Try.prog) (w := w) (rs := [.tmp 8]) (vs := [.bool !t5]) (.tmp rfl .nil)
    obtain rfl := Option.some.inj H
    exact leave ht rfl hres ⟨rfl, ((hm.pick [] rfl (by decide)).pickφ [] rfl).post fun _ h => h⟩
  · replace H := ite_no h4 H
    refine wpl_no rfl rfl ht rfl (by rw [(decide_eq_false h4)]; decide) ?_
    intro a ht
    refine wpl_no rfl rfl ht rfl (by rw [(decide_eq_false h4)]; decide) ?_
    intro a ht
    refine wpl_no rfl rfl ht rfl (by rw [(decide_eq_false h4)]; decide) ?_
    intro a ht
    refine wpl_no rfl rfl ht rfl (by rw [(decide_eq_false h4)]; decide) ?_
    intro a ht
    refine wpl rfl rfl ht (ev_pick_no ht rfl rfl (decide_eq_false h4) rfl) ?_
    intro a ht
    refine wpl rfl rfl ht (ev_assign ht rfl rfl) ?_
    intro a ht
    refine wpList_nil ?_
    refine then_normal ?_
    refine wp_ret ?_
    have hres := ht.res (P := Try.prog) (w := w) (rs := [.tmp 8]) (vs := [.bool false]) (.tmp rfl .nil)
    obtain rfl := Option.some.inj H
    exact leave ht rfl hres ⟨rfl, ((hm.pick [] rfl (by decide)).pickφ [] rfl).post fun _ h => h⟩

end Go.Proofs.Ytfbdcidedjocdaa.G
