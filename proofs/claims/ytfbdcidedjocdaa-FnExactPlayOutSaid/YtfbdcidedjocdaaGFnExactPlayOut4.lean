/- What each Go function computes, as a Lean function, and the proof that it does: written by a program of this session (wip/gen), part 4. -/
import Derived.Test.YtfbdcidedjocdaaGFnExactPlayOut3
namespace Go.Proofs.Ytfbdcidedjocdaa.G
open Go Go.RowKit Go.Proofs.Ytfbdcidedjocdaa.K
set_option linter.unusedVariables false
set_option linter.unusedSimpArgs false

/-! ### spec_l09Outcome: function 63 (loop.example/g01362/spec.l09Outcome) -/
mutual
def spec_l09Outcome.l0 : Nat → Int → List Int → Int → Int → List Int → List Int → Int → Int → Option (Int × List Int)
  | 0, _, _, _, _, _, _, _, _ => none
  | q12 + 1, n_, list, t1, t7, t8, ls0_1, xs0_2, xs0_3 => if xs0_3 < (t8.length : Int) then (if xs0_2 ≠ t7 then ((getI t8 xs0_3).bind fun t15 => (spec_l09Move.f q12 list t15).bind fun t16 => (spec_l09Outcome.f q12 n_ t16 ls0_1).bind fun t20 => if t20.1 = t7 then (spec_l09Outcome.l0 q12 n_ list t1 t7 t8 t20.2 t20.1 (w64 (xs0_3 + 1))) else (if t20.1 = 2 then (spec_l09Outcome.l0 q12 n_ list t1 t7 t8 t20.2 t20.1 (w64 (xs0_3 + 1))) else (spec_l09Outcome.l0 q12 n_ list t1 t7 t8 t20.2 xs0_2 (w64 (xs0_3 + 1))))) else ((getI ls0_1 t1).bind fun t23 => some (xs0_2, ls0_1.set t1.toNat xs0_2))) else ((getI ls0_1 t1).bind fun t24 => some (xs0_2, ls0_1.set t1.toNat xs0_2))
def spec_l09Outcome.f : Nat → Int → List Int → List Int → Option (Int × List Int)
  | 0, _, _, _ => none
  | k + 1, n_, list, known => (spec_l09Number.f k list).bind fun t1 => (getI known t1).bind fun t2 => if t2 ≥ 0 then ((getI known t1).bind fun t4 => some (t4, known)) else ((spec_l09Result.f k n_ list).bind fun t5 => if t5 < 0 then ((spec_l09Mover.f k list).bind fun t7 => (spec_l09Free.f k list).bind fun t8 => spec_l09Outcome.l0 k n_ list t1 t7 t8 known (w64 (1 - t7)) 0) else ((getI known t1).bind fun t25 => some (t5, known.set t1.toNat t5)))
end
set_option maxRecDepth 100000 in
set_option maxHeartbeats 1000000 in
theorem spec_l09Outcome.calls (k : Nat) (X : List Nat) (w0 : World) (A : Option Addr) (c : Nat) (m : Nat) (A2 : Option Addr) (c2 : Nat) (m2 : Nat) (n_ : Int) (list : List Int) (known : List Int) (r : Int × List Int)
    (hp : Pre X w0 [.vec A2 c2 2 1 m2 (ints known)] [IntsAt A c m list]) (H : spec_l09Outcome.f k n_ list known = some r) :
    Calls Try.prog 63 [.int .i64 n_, .slice A m c, .slice A2 m2 c2].toArray w0 (Ret fun v w => v = .int .i64 r.1 ∧ Post X (fps [.vec A2 c2 2 1 m2 (ints known)]) w0 [.vec A2 c2 2 1 m2 (ints r.2)] [] w) := by
  induction k using Nat.strongRecOn generalizing X w0 A c m A2 c2 m2 n_ list known r with
  | _ k ih =>
  cases k with
  | zero => cases H
  | succ k =>
  rw [spec_l09Outcome.f] at H
  refine enterM (n := 68) hp Try.func63 rfl rfl (Nat.le_of_ble_eq_true rfl) fun a w ht hm => ?_
  induction k using Nat.strongRecOn with
  | _ k ih =>
  refine wp_seq ?_
  refine wpr ?_
  refine wpl rfl rfl ht (ev_assign ht rfl rfl) ?_
  intro a ht
  refine wpList_nil ?_
  refine then_normal ?_
  refine wp_seq ?_
  refine wpr ?_
  refine wpl rfl rfl ht (ev_move ht rfl rfl) ?_
  intro a ht
  obtain ⟨t1, et1, H⟩ := bind_get H
  have hcall := spec_l09Number.calls k _ _ A c m list _ ((fun (hq : Ms _ _ _ ([] ++ [.vec A2 c2 2 1 m2 (ints known)]) _ _) => hq.lend (φp := [IntsAt A c m list]) (allRO_cons (hq.lendFact 0 rfl) (allRO_nil))) (hm.pick (own' := [] ++ [.vec A2 c2 2 1 m2 (ints known)]) [0] rfl (by decide))) et1
  refine wpl_call _ rfl rfl ht rfl rfl rfl rfl can_83 hcall ?_
  clear hcall
  rintro _ w ⟨rfl, hpost⟩ a ht
  replace hm := (hm.pick (own' := [] ++ [.vec A2 c2 2 1 m2 (ints known)]) [0] rfl (by decide)).backL hpost
  clear hpost
  refine wpl rfl rfl ht (ev_assign ht rfl rfl) ?_
  intro a ht
  refine wpList_nil ?_
  refine then_normal ?_
  refine wp_seq ?_
  refine wp_seq ?_
  refine wpr ?_
  refine wpl rfl rfl ht (ev_move ht rfl rfl) ?_
  intro a ht
  refine wpl rfl rfl ht (ev_move ht rfl rfl) ?_
  intro a ht
  obtain ⟨t2, et2, H⟩ := bind_get H
  refine wpl rfl rfl ht (ev_index_ints ht rfl rfl rfl so_22 (hm.vec_row 0 rfl) et2) ?_
  intro a ht
  refine wpl rfl rfl ht (ev_load ht rfl rfl sc_2 (RowAt.cell (hm.vec_row 0 rfl) (ints_get et2) rfl)) ?_
  intro a ht
  refine wpl rfl rfl ht (ev_cmp ht rfl rfl rfl rfl) ?_
  intro a ht
  refine wpList_nil ?_
  refine then_normal ?_
  by_cases h3 : t2 ≥ 0
  · replace H := ite_yes h3 H
    refine wpc_yes ht rfl (decide_eq_true h3) ?_
    refine wp_seq ?_
    refine wpr ?_
    refine wpl rfl rfl ht (ev_move ht rfl rfl) ?_
    intro a ht
    refine wpl rfl rfl ht (ev_move ht rfl rfl) ?_
    intro a ht
    obtain ⟨t4, et4, H⟩ := bind_get H
    refine wpl rfl rfl ht (ev_index_ints ht rfl rfl rfl so_22 (hm.vec_row 0 rfl) et4) ?_
    intro a ht
    refine wpl rfl rfl ht (ev_load ht rfl rfl sc_2 (RowAt.cell (hm.vec_row 0 rfl) (ints_get et4) rfl)) ?_
    intro a ht
    refine wpl rfl rfl ht (ev_assign ht rfl rfl) ?_
    intro a ht
    refine wpList_nil ?_
    refine then_normal ?_
    refine wp_ret ?_
    refine then_ret ?_
    have hres := ht.res (P := Try.prog) (w := w) (rs := [.tmp 6]) (vs := [.int .i64 t4]) (.tmp rfl .nil)
    obtain rfl := Option.some.inj H
    exact leave ht rfl hres ⟨rfl, ((hm.pick [0] rfl (by decide)).pickφ [] rfl).post fun _ h => h⟩
  · replace H := ite_no h3 H
    refine wpc_no ht rfl (decide_eq_false h3) ?_
    refine wp_skip ?_
    refine then_normal ?_
    refine wp_seq ?_
    refine wpr ?_
    refine wpl rfl rfl ht (ev_move ht rfl rfl) ?_
    intro a ht
    refine wpl rfl rfl ht (ev_move ht rfl rfl) ?_
    intro a ht
    obtain ⟨t5, et5, H⟩ := bind_get H
    have hcall := spec_l09Result.calls k _ _ A c m n_ list _ ((fun (hq : Ms _ _ _ ([] ++ [.vec A2 c2 2 1 m2 (ints known)]) _ _) => hq.lend (φp := [IntsAt A c m list]) (allRO_cons (hq.lendFact 0 rfl) (allRO_nil))) (hm.pick (own' := [] ++ [.vec A2 c2 2 1 m2 (ints known)]) [0] rfl (by decide))) et5
    refine wpl_call _ rfl rfl ht rfl rfl rfl rfl can_43 hcall ?_
    clear hcall
    rintro _ w ⟨rfl, hpost⟩ a ht
    replace hm := (hm.pick (own' := [] ++ [.vec A2 c2 2 1 m2 (ints known)]) [0] rfl (by decide)).backL hpost
    clear hpost
    refine wpl rfl rfl ht (ev_assign ht rfl rfl) ?_
    intro a ht
    refine wpList_nil ?_
    refine then_normal ?_
    refine wp_seq ?_
    refine wp_seq ?_
    refine wpr ?_
    refine wpl rfl rfl ht (ev_move ht rfl rfl) ?_
    intro a ht
    refine wpl rfl rfl ht (ev_cmp ht rfl rfl rfl rfl) ?_
    intro a ht
    refine wpList_nil ?_
    refine then_normal ?_
    by_cases h6 : t5 < 0
    · replace H := ite_yes h6 H
      refine wpc_yes ht rfl (decide_eq_true h6) ?_
      refine wp_seq ?_
      refine wpr ?_
      refine wpl rfl rfl ht (ev_move ht rfl rfl) ?_
      intro a ht
      obtain ⟨t7, et7, H⟩ := bind_get H
      have hcall := spec_l09Mover.calls k _ _ A c m list _ ((fun (hq : Ms _ _ _ ([] ++ [.vec A2 c2 2 1 m2 (ints known)]) _ _) => hq.lend (φp := [IntsAt A c m list]) (allRO_cons (hq.lendFact 0 rfl) (allRO_nil))) (hm.pick (own' := [] ++ [.vec A2 c2 2 1 m2 (ints known)]) [0] rfl (by decide))) et7
      refine wpl_call _ rfl rfl ht rfl rfl rfl rfl can_51 hcall ?_
      clear hcall
      rintro _ w ⟨rfl, hpost⟩ a ht
      replace hm := (hm.pick (own' := [] ++ [.vec A2 c2 2 1 m2 (ints known)]) [0] rfl (by decide)).backL hpost
      clear hpost
      refine wpl rfl rfl ht (ev_assign ht rfl rfl) ?_
      intro a ht
      refine wpList_nil ?_
      refine then_normal ?_
      refine wp_seq ?_
      refine wpr ?_
      refine wpl rfl rfl ht (ev_move ht rfl rfl) ?_
      intro a ht
      refine wpl rfl rfl ht (ev_arith ht rfl rfl rfl rfl) ?_
      intro a ht
      refine wpl rfl rfl ht (ev_assign ht rfl rfl) ?_
      intro a ht
      refine wpList_nil ?_
      refine then_normal ?_
      refine wp_seq ?_
      refine wpr ?_
      refine wpl rfl rfl ht (ev_move ht rfl rfl) ?_
      intro a ht
      obtain ⟨t8, et8, H⟩ := bind_get H
      have hcall := spec_l09Free.calls k _ _ A c m list _ ((fun (hq : Ms _ _ _ ([] ++ [.vec A2 c2 2 1 m2 (ints known)]) _ _) => hq.lend (φp := [IntsAt A c m list]) (allRO_cons (hq.lendFact 0 rfl) (allRO_nil))) (hm.pick (own' := [] ++ [.vec A2 c2 2 1 m2 (ints known)]) [0] rfl (by decide))) et8
      refine wpl_call _ rfl rfl ht rfl rfl rfl rfl can_75 hcall ?_
      clear hcall
      rintro _ w ⟨A9, c10, m11, rfl, hpost⟩ a ht
      replace hm := (hm.pick (own' := [] ++ [.vec A2 c2 2 1 m2 (ints known)]) [0] rfl (by decide)).backL hpost
      clear hpost
      refine wpl rfl rfl ht (ev_assign ht rfl rfl) ?_
      intro a ht
      refine wpList_nil ?_
      refine then_normal ?_
      refine wp_seq ?_
      refine wpr ?_
      refine wpl rfl rfl ht (ev_assign ht rfl rfl) ?_
      intro a ht
      refine wpList_nil ?_
      refine then_normal ?_
      refine wp_block ?_
      refine wpLoop (fun q a w => ∃ (ls0_1 : List Int) (xs0_2 : Int) (xs0_3 : Int), spec_l09Outcome.l0 q n_ list t1 t7 t8 ls0_1 xs0_2 xs0_3 = some r ∧ q ≤ k ∧ Tm 68 [(0, .int .i64 n_), (1, .slice A m c), (2, .slice A2 m2 c2), (6, .int .i64 0), (7, .int .i64 t1), (9, .int .i64 t7), (10, .slice A9 m11 c10), (8, .int .i64 xs0_2), (11, .int .i64 xs0_3)] a ∧ Ms X (fps [.vec A2 c2 2 1 m2 (ints known)]) w0 [.vec A9 c10 2 1 m11 (ints t8), .vec A2 c2 2 1 m2 (ints ls0_1)] [IntsAt A c m list] w) (k0 := k) ⟨known, (w64 (1 - t7)), 0, H, Nat.le_refl _, ht.sub ⟨rfl, rfl, rfl, rfl, rfl, rfl, rfl, rfl, rfl, trivial⟩, (hm.pick [0, 1] rfl (by decide)).pickφ [0] rfl⟩ ?_
      clear H ht hm
      intro q12 a w hJ
      obtain ⟨ls0_1, xs0_2, xs0_3, H, hqq12, ht, hm⟩ := hJ
      cases q12 with
      | zero => cases H
      | succ q12 =>
      rw [spec_l09Outcome.l0] at H
      refine wp_seq ?_
      refine wp_seq ?_
      refine wpr ?_
      refine wpl rfl rfl ht (ev_move ht rfl rfl) ?_
      intro a ht
      refine wpl rfl rfl ht (ev_move ht rfl rfl) ?_
      intro a ht
      refine wpl rfl rfl ht (ev_len_of ht rfl rfl und_22 (hm.vec_row 0 rfl)) ?_
      intro a ht
      refine wpl rfl rfl ht (ev_cmp ht rfl rfl rfl rfl) ?_
      intro a ht
      refine wpl rfl rfl ht (ev_move ht rfl rfl) ?_
      intro a ht
      by_cases h13 : xs0_3 < (t8.length : Int)
      · replace H := ite_yes h13 H
        refine wpl_yes rfl ht rfl ((decide_eq_true h13)) ?_
        refine wpl rfl rfl ht (ev_move ht rfl rfl) ?_
        intro a ht
        refine wpl_yes rfl ht rfl ((decide_eq_true h13)) ?_
        refine wpl rfl rfl ht (ev_move ht rfl rfl) ?_
        intro a ht
        refine wpl_yes rfl ht rfl ((decide_eq_true h13)) ?_
        refine wpl rfl rfl ht (ev_cmp ht rfl rfl rfl rfl) ?_
        intro a ht
        refine wpl rfl rfl ht (ev_pick_yes ht rfl rfl (decide_eq_true h13) rfl) ?_
        intro a ht
        refine wpList_nil ?_
        refine then_normal ?_
        by_cases h14 : xs0_2 ≠ t7
        · replace H := ite_yes h14 H
          refine wpc_yes ht rfl (decide_eq_true h14) ?_
          refine wp_skip ?_
          refine then_normal ?_
          refine wp_seq ?_
          refine wp_block ?_
          refine wp_seq ?_
          refine wpr ?_
          refine wpl rfl rfl ht (ev_move ht rfl rfl) ?_
          intro a ht
          refine wpl rfl rfl ht (ev_move ht rfl rfl) ?_
          intro a ht
          refine wpl rfl rfl ht (ev_move ht rfl rfl) ?_
          intro a ht
          refine wpl rfl rfl ht (ev_move ht rfl rfl) ?_
          intro a ht
          obtain ⟨t15, et15, H⟩ := bind_get H
          refine wpl rfl rfl ht (ev_index_ints ht rfl rfl rfl so_22 (hm.vec_row 0 rfl) et15) ?_
          intro a ht
          refine wpl rfl rfl ht (ev_load ht rfl rfl sc_2 (RowAt.cell (hm.vec_row 0 rfl) (ints_get et15) rfl)) ?_
          intro a ht
          obtain ⟨t16, et16, H⟩ := bind_get H
          have hcall := spec_l09Move.calls q12 _ _ A c m list t15 _ ((fun (hq : Ms _ _ _ ([] ++ [.vec A9 c10 2 1 m11 (ints t8), .vec A2 c2 2 1 m2 (ints ls0_1)]) _ _) => hq.lend (φp := [IntsAt A c m list]) (allRO_cons (hq.lendFact 0 rfl) (allRO_nil))) (hm.pick (own' := [] ++ [.vec A9 c10 2 1 m11 (ints t8), .vec A2 c2 2 1 m2 (ints ls0_1)]) [0, 1] rfl (by decide))) et16
          refine wpl_call _ rfl rfl ht rfl rfl rfl rfl can_45 hcall ?_
          clear hcall
          rintro _ w ⟨A17, c18, m19, rfl, hpost⟩ a ht
          replace hm := (hm.pick (own' := [] ++ [.vec A9 c10 2 1 m11 (ints t8), .vec A2 c2 2 1 m2 (ints ls0_1)]) [0, 1] rfl (by decide)).backL hpost
          clear hpost
          refine wpl rfl rfl ht (ev_move ht rfl rfl) ?_
          intro a ht
          obtain ⟨t20, et20, H⟩ := bind_get H
          have hcall := ih q12 (by omega) _ _ A17 c18 m19 A2 c2 m2 n_ t16 ls0_1 _ ((fun (hq : Ms _ _ _ ([.vec A2 c2 2 1 m2 (ints ls0_1)] ++ [.vec A17 c18 2 1 m19 (ints t16), .vec A9 c10 2 1 m11 (ints t8)]) _ _) => hq.lend (φp := [IntsAt A17 c18 m19 t16]) (allRO_cons (hq.lendVec 0 rfl) (allRO_nil))) (hm.pick (own' := [.vec A2 c2 2 1 m2 (ints ls0_1)] ++ [.vec A17 c18 2 1 m19 (ints t16), .vec A9 c10 2 1 m11 (ints t8)]) [2, 0, 1] rfl (by decide))) et20
          refine wpl_call _ rfl rfl ht rfl rfl rfl rfl can_63 hcall ?_
          clear hcall
          rintro _ w ⟨rfl, hpost⟩ a ht
          replace hm := (hm.pick (own' := [.vec A2 c2 2 1 m2 (ints ls0_1)] ++ [.vec A17 c18 2 1 m19 (ints t16), .vec A9 c10 2 1 m11 (ints t8)]) [2, 0, 1] rfl (by decide)).backL hpost
          clear hpost
          refine wpl rfl rfl ht (ev_assign ht rfl rfl) ?_
          intro a ht
          refine wpList_nil ?_
          refine then_normal ?_
          refine wp_seq ?_
          refine wpr ?_
          refine wpl rfl rfl ht (ev_move ht rfl rfl) ?_
          intro a ht
          refine wpl rfl rfl ht (ev_move ht rfl rfl) ?_
          intro a ht
          refine wpl rfl rfl ht (ev_cmp ht rfl rfl rfl rfl) ?_
          intro a ht
          refine wpl rfl rfl ht (ev_move ht rfl rfl) ?_
          intro a ht
          by_cases h21 : t20.1 = t7
          · replace H := ite_yes h21 H
            refine wpl_no rfl rfl ht rfl (by rw [(decide_eq_true h21)]; decide) ?_
            intro a ht
            refine wpl_no rfl rfl ht rfl (by rw [(decide_eq_true h21)]; decide) ?_
            intro a ht
            refine wpl rfl rfl ht (ev_pick_yes ht rfl rfl (decide_eq_true h21) rfl) ?_
            intro a ht
            refine wpList_nil ?_
            refine then_normal ?_
            refine wpc_yes ht rfl rfl ?_
            refine wpr ?_
            refine wpl rfl rfl ht (ev_move ht rfl rfl) ?_
            intro a ht
            refine wpl rfl rfl ht (ev_assign ht rfl rfl) ?_
            intro a ht
            refine wpList_nil ?_
            refine blk_normal ?_
            refine then_normal ?_
            refine wpr ?_
            refine wpl rfl rfl ht (ev_move ht rfl rfl) ?_
            intro a ht
            refine wpl rfl rfl ht (ev_arith ht rfl rfl rfl rfl) ?_
            intro a ht
            refine wpl rfl rfl ht (ev_assign ht rfl rfl) ?_
            intro a ht
            refine wpList_nil ?_
            exact then_normal ⟨q12, by omega, t20.2, t20.1, (w64 (xs0_3 + 1)), H, by omega, ht.sub ⟨rfl, rfl, rfl, rfl, rfl, rfl, rfl, rfl, rfl, trivial⟩, (hm.pick [2, 0] rfl (by decide)).pickφ [0] rfl⟩
          · replace H := ite_no h21 H
            refine wpl_yes rfl ht rfl ((decide_eq_false h21)) ?_
            refine wpl rfl rfl ht (ev_move ht rfl rfl) ?_
            intro a ht
            refine wpl_yes rfl ht rfl ((decide_eq_false h21)) ?_
            refine wpl rfl rfl ht (ev_cmp ht rfl rfl rfl rfl) ?_
            intro a ht
            refine wpl rfl rfl ht (ev_pick_no ht rfl rfl (decide_eq_false h21) rfl) ?_
            intro a ht
            refine wpList_nil ?_
            refine then_normal ?_
            by_cases h22 : t20.1 = 2
            · replace H := ite_yes h22 H
              refine wpc_yes ht rfl (decide_eq_true h22) ?_
              refine wpr ?_
              refine wpl rfl rfl ht (ev_move ht rfl rfl) ?_
              intro a ht
              refine wpl rfl rfl ht (ev_assign ht rfl rfl) ?_
              intro a ht
              refine wpList_nil ?_
              refine blk_normal ?_
              refine then_normal ?_
              refine wpr ?_
              refine wpl rfl rfl ht (ev_move ht rfl rfl) ?_
              intro a ht
              refine wpl rfl rfl ht (ev_arith ht rfl rfl rfl rfl) ?_
              intro a ht
              refine wpl rfl rfl ht (ev_assign ht rfl rfl) ?_
              intro a ht
              refine wpList_nil ?_
              exact then_normal ⟨q12, by omega, t20.2, t20.1, (w64 (xs0_3 + 1)), H, by omega, ht.sub ⟨rfl, rfl, rfl, rfl, rfl, rfl, rfl, rfl, rfl, trivial⟩, (hm.pick [2, 0] rfl (by decide)).pickφ [0] rfl⟩
            · replace H := ite_no h22 H
              refine wpc_no ht rfl (decide_eq_false h22) ?_
              refine wp_skip ?_
              refine blk_normal ?_
              refine then_normal ?_
              refine wpr ?_
              refine wpl rfl rfl ht (ev_move ht rfl rfl) ?_
              intro a ht
              refine wpl rfl rfl ht (ev_arith ht rfl rfl rfl rfl) ?_
              intro a ht
              refine wpl rfl rfl ht (ev_assign ht rfl rfl) ?_
              intro a ht
              refine wpList_nil ?_
              exact then_normal ⟨q12, by omega, t20.2, xs0_2, (w64 (xs0_3 + 1)), H, by omega, ht.sub ⟨rfl, rfl, rfl, rfl, rfl, rfl, rfl, rfl, rfl, trivial⟩, (hm.pick [2, 0] rfl (by decide)).pickφ [0] rfl⟩
        · replace H := ite_no h14 H
          refine wpc_no ht rfl (decide_eq_false h14) ?_
          refine wp_exit ?_
          refine then_exit ?_
          refine then_exit ?_
          refine blk_hit ?_
          refine then_normal ?_
          refine wp_seq ?_
          refine wpr ?_
          refine wpl rfl rfl ht (ev_move ht rfl rfl) ?_
          intro a ht
          refine wpl rfl rfl ht (ev_move ht rfl rfl) ?_
          intro a ht
          refine wpl rfl rfl ht (ev_move ht rfl rfl) ?_
          intro a ht
          obtain ⟨t23, et23, H⟩ := bind_get H
          refine wpl rfl rfl ht (ev_index_ints ht rfl rfl rfl so_22 (hm.vec_row 1 rfl) et23) ?_
          intro a ht
          refine wpl_store_int 1 rfl rfl ht hm rfl rfl rfl sz1_2 rfl et23 ?_
          intro a ht w hm
          refine wpList_nil ?_
          refine then_normal ?_
          refine wp_seq ?_
          refine wpr ?_
          refine wpl rfl rfl ht (ev_move ht rfl rfl) ?_
          intro a ht
          refine wpl rfl rfl ht (ev_assign ht rfl rfl) ?_
          intro a ht
          refine wpList_nil ?_
          refine then_normal ?_
          refine wp_ret ?_
          have hres := ht.res (P := Try.prog) (w := w) (rs := [.tmp 6]) (vs := [.int .i64 xs0_2]) (.tmp rfl .nil)
          obtain rfl := Option.some.inj H
          exact leave ht rfl hres ⟨rfl, ((hm.pick [1] rfl (by decide)).pickφ [] rfl).post fun _ h => h⟩
      · replace H := ite_no h13 H
        refine wpl_no rfl rfl ht rfl (by rw [(decide_eq_false h13)]; decide) ?_
        intro a ht
        refine wpl_no rfl rfl ht rfl (by rw [(decide_eq_false h13)]; decide) ?_
        intro a ht
        refine wpl_no rfl rfl ht rfl (by rw [(decide_eq_false h13)]; decide) ?_
        intro a ht
        refine wpl rfl rfl ht (ev_pick_no ht rfl rfl (decide_eq_false h13) rfl) ?_
        intro a ht
        refine wpList_nil ?_
        refine then_normal ?_
        refine wpc_no ht rfl rfl ?_
        refine wp_exit ?_
        refine then_exit ?_
        refine then_exit ?_
        refine blk_hit ?_
        refine then_normal ?_
        refine wp_seq ?_
        refine wpr ?_
        refine wpl rfl rfl ht (ev_move ht rfl rfl) ?_
        intro a ht
        refine wpl rfl rfl ht (ev_move ht rfl rfl) ?_
        intro a ht
        refine wpl rfl rfl ht (ev_move ht rfl rfl) ?_
        intro a ht
        obtain ⟨t24, et24, H⟩ := bind_get H
        refine wpl rfl rfl ht (ev_index_ints ht rfl rfl rfl so_22 (hm.vec_row 1 rfl) et24) ?_
        intro a ht
        refine wpl_store_int 1 rfl rfl ht hm rfl rfl rfl sz1_2 rfl et24 ?_
        intro a ht w hm
        refine wpList_nil ?_
        refine then_normal ?_
        refine wp_seq ?_
        refine wpr ?_
        refine wpl rfl rfl ht (ev_move ht rfl rfl) ?_
        intro a ht
        refine wpl rfl rfl ht (ev_assign ht rfl rfl) ?_
        intro a ht
        refine wpList_nil ?_
        refine then_normal ?_
        refine wp_ret ?_
        have hres := ht.res (P := Try.prog) (w := w) (rs := [.tmp 6]) (vs := [.int .i64 xs0_2]) (.tmp rfl .nil)
        obtain rfl := Option.some.inj H
        exact leave ht rfl hres ⟨rfl, ((hm.pick [1] rfl (by decide)).pickφ [] rfl).post fun _ h => h⟩
    · replace H := ite_no h6 H
      refine wpc_no ht rfl (decide_eq_false h6) ?_
      refine wp_skip ?_
      refine then_normal ?_
      refine wp_seq ?_
      refine wpr ?_
      refine wpl rfl rfl ht (ev_move ht rfl rfl) ?_
      intro a ht
      refine wpl rfl rfl ht (ev_move ht rfl rfl) ?_
      intro a ht
      refine wpl rfl rfl ht (ev_move ht rfl rfl) ?_
      intro a ht
      obtain ⟨t25, et25, H⟩ := bind_get H
      refine wpl rfl rfl ht (ev_index_ints ht rfl rfl rfl so_22 (hm.vec_row 0 rfl) et25) ?_
      intro a ht
      refine wpl_store_int 0 rfl rfl ht hm rfl rfl rfl sz1_2 rfl et25 ?_
      intro a ht w hm
      refine wpList_nil ?_
      refine then_normal ?_
      refine wp_seq ?_
      refine wpr ?_
      refine wpl rfl rfl ht (ev_move ht rfl rfl) ?_
      intro a ht
      refine wpl rfl rfl ht (ev_assign ht rfl rfl) ?_
      intro a ht
      refine wpList_nil ?_
      refine then_normal ?_
      refine wp_ret ?_
      have hres := ht.res (P := Try.prog) (w := w) (rs := [.tmp 6]) (vs := [.int .i64 t5]) (.tmp rfl .nil)
      obtain rfl := Option.some.inj H
      exact leave ht rfl hres ⟨rfl, ((hm.pick [0] rfl (by decide)).pickφ [] rfl).post fun _ h => h⟩

/-! ### spec_l09Best: function 44 (loop.example/g01362/spec.l09Best) -/
def spec_l09Best.l0 : Nat → Int → List Int → Int × List Int → List Int → List Int → List Int → Int → Option (List Int × List Int)
  | 0, _, _, _, _, _, _, _ => none
  | q7 + 1, n_, list, t1, t2, ls0_4, ls0_5, xs0_6 => if xs0_6 < (t2.length : Int) then ((getI t2 xs0_6).bind fun t9 => (spec_l09Move.f q7 list t9).bind fun t10 => (spec_l09Outcome.f q7 n_ t10 ls0_5).bind fun t14 => if t14.1 = t1.1 then ((getI t2 xs0_6).bind fun t16 => (push ls0_4 t16).bind fun l21 => spec_l09Best.l0 q7 n_ list t1 t2 l21 t14.2 (w64 (xs0_6 + 1))) else (spec_l09Best.l0 q7 n_ list t1 t2 ls0_4 t14.2 (w64 (xs0_6 + 1)))) else (some (ls0_4, ls0_5))
def spec_l09Best.f (k : Nat) (n_ : Int) (list : List Int) (known : List Int) : Option (List Int × List Int) := (spec_l09Outcome.f k n_ list known).bind fun t1 => (spec_l09Free.f k list).bind fun t2 => spec_l09Best.l0 k n_ list t1 t2 ([] : List Int) t1.2 0
set_option maxRecDepth 100000 in
set_option maxHeartbeats 1000000 in
theorem spec_l09Best.calls (k : Nat) (X : List Nat) (w0 : World) (A : Option Addr) (c : Nat) (m : Nat) (A2 : Option Addr) (c2 : Nat) (m2 : Nat) (n_ : Int) (list : List Int) (known : List Int) (r : List Int × List Int)
    (hp : Pre X w0 [.vec A2 c2 2 1 m2 (ints known)] [IntsAt A c m list]) (H : spec_l09Best.f k n_ list known = some r) :
    Calls Try.prog 44 [.int .i64 n_, .slice A m c, .slice A2 m2 c2].toArray w0 (Ret fun v w => ∃ (A_0 : Option Addr) (c_0 : Nat) (n_0 : Nat), v = .slice A_0 n_0 c_0 ∧ Post X (fps [.vec A2 c2 2 1 m2 (ints known)]) w0 [.vec A_0 c_0 2 1 n_0 (ints r.1), .vec A2 c2 2 1 m2 (ints r.2)] [] w) := by
  unfold spec_l09Best.f at H
  refine enterM (n := 43) hp Try.func44 rfl rfl (Nat.le_of_ble_eq_true rfl) fun a w ht hm => ?_
  refine wp_seq ?_
  refine wpr ?_
  refine wpl rfl rfl ht (ev_assign ht rfl rfl) ?_
  intro a ht
  refine wpList_nil ?_
  refine then_normal ?_
  refine wp_seq ?_
  refine wpr ?_
  refine wpl rfl rfl ht (ev_move ht rfl rfl) ?_
  intro a ht
  refine wpl rfl rfl ht (ev_move ht rfl rfl) ?_
  intro a ht
  refine wpl rfl rfl ht (ev_move ht rfl rfl) ?_
  intro a ht
  obtain ⟨t1, et1, H⟩ := bind_get H
  have hcall := spec_l09Outcome.calls k _ _ A c m A2 c2 m2 n_ list known _ ((fun (hq : Ms _ _ _ ([.vec A2 c2 2 1 m2 (ints known)] ++ []) _ _) => hq.lend (φp := [IntsAt A c m list]) (allRO_cons (hq.lendFact 0 rfl) (allRO_nil))) (hm.pick (own' := [.vec A2 c2 2 1 m2 (ints known)] ++ []) [0] rfl (by decide))) et1
  refine wpl_call _ rfl rfl ht rfl rfl rfl rfl can_63 hcall ?_
  clear hcall
  rintro _ w ⟨rfl, hpost⟩ a ht
  replace hm := (hm.pick (own' := [.vec A2 c2 2 1 m2 (ints known)] ++ []) [0] rfl (by decide)).backL hpost
  clear hpost
  refine wpl rfl rfl ht (ev_move ht rfl rfl) ?_
  intro a ht
  obtain ⟨t2, et2, H⟩ := bind_get H
  have hcall := spec_l09Free.calls k _ _ A c m list _ ((fun (hq : Ms _ _ _ ([] ++ [.vec A2 c2 2 1 m2 (ints t1.2)]) _ _) => hq.lend (φp := [IntsAt A c m list]) (allRO_cons (hq.lendFact 0 rfl) (allRO_nil))) (hm.pick (own' := [] ++ [.vec A2 c2 2 1 m2 (ints t1.2)]) [0] rfl (by decide))) et2
  refine wpl_call _ rfl rfl ht rfl rfl rfl rfl can_75 hcall ?_
  clear hcall
  rintro _ w ⟨A3, c4, m5, rfl, hpost⟩ a ht
  replace hm := (hm.pick (own' := [] ++ [.vec A2 c2 2 1 m2 (ints t1.2)]) [0] rfl (by decide)).backL hpost
  clear hpost
  refine wpl_build_ints (l := ([] : List Int)) rfl rfl ht hm rfl und_22 zo_2 sz1_2 (by decide) rfl rfl rfl ?_
  intro A6 a ht w hm
  refine wpl rfl rfl ht (ev_assign ht rfl rfl) ?_
  intro a ht
  refine wpl rfl rfl ht (ev_assign ht rfl rfl) ?_
  intro a ht
  refine wpl rfl rfl ht (ev_assign ht rfl rfl) ?_
  intro a ht
  refine wpList_nil ?_
  refine then_normal ?_
  refine wp_seq ?_
  refine wp_seq ?_
  refine wpr ?_
  refine wpl rfl rfl ht (ev_assign ht rfl rfl) ?_
  intro a ht
  refine wpList_nil ?_
  refine then_normal ?_
  refine wp_block ?_
  refine wpLoop (fun q a w => ∃ (ls0_4 : List Int) (ls0_5 : List Int) (xs0_6 : Int) (As0_1 : Option Addr) (cs0_2 : Nat) (ms0_3 : Nat), spec_l09Best.l0 q n_ list t1 t2 ls0_4 ls0_5 xs0_6 = some r ∧ q ≤ k ∧ Tm 43 [(0, .int .i64 n_), (1, .slice A m c), (2, .slice A2 m2 c2), (6, .slice none 0 0), (7, .int .i64 t1.1), (8, .slice A3 m5 c4), (9, .slice As0_1 ms0_3 cs0_2), (10, .int .i64 xs0_6)] a ∧ Ms X (fps [.vec A2 c2 2 1 m2 (ints known)]) w0 [.vec As0_1 cs0_2 2 1 ms0_3 (ints ls0_4), .vec A3 c4 2 1 m5 (ints t2), .vec A2 c2 2 1 m2 (ints ls0_5)] [IntsAt A c m list] w) (k0 := k) ⟨([] : List Int), t1.2, 0, A6, 0, 0, H, Nat.le_refl _, ht.sub ⟨rfl, rfl, rfl, rfl, rfl, rfl, rfl, rfl, trivial⟩, (hm.pick [0, 1, 2] rfl (by decide)).pickφ [0] rfl⟩ ?_
  clear H ht hm
  intro q7 a w hJ
  obtain ⟨ls0_4, ls0_5, xs0_6, As0_1, cs0_2, ms0_3, H, hqq7, ht, hm⟩ := hJ
  cases q7 with
  | zero => cases H
  | succ q7 =>
  rw [spec_l09Best.l0] at H
  refine wp_seq ?_
  refine wp_seq ?_
  refine wpr ?_
  refine wpl rfl rfl ht (ev_move ht rfl rfl) ?_
  intro a ht
  refine wpl rfl rfl ht (ev_move ht rfl rfl) ?_
  intro a ht
  refine wpl rfl rfl ht (ev_len_of ht rfl rfl und_22 (hm.vec_row 1 rfl)) ?_
  intro a ht
  refine wpl rfl rfl ht (ev_cmp ht rfl rfl rfl rfl) ?_
  intro a ht
  refine wpList_nil ?_
  refine then_normal ?_
  by_cases h8 : xs0_6 < (t2.length : Int)
  · replace H := ite_yes h8 H
    refine wpc_yes ht rfl (decide_eq_true h8) ?_
    refine wp_skip ?_
    refine then_normal ?_
    refine wp_seq ?_
    refine wp_block ?_
    refine wp_seq ?_
    refine wpr ?_
    refine wpl rfl rfl ht (ev_move ht rfl rfl) ?_
    intro a ht
    refine wpl rfl rfl ht (ev_move ht rfl rfl) ?_
    intro a ht
    refine wpl rfl rfl ht (ev_move ht rfl rfl) ?_
    intro a ht
    refine wpl rfl rfl ht (ev_move ht rfl rfl) ?_
    intro a ht
    obtain ⟨t9, et9, H⟩ := bind_get H
    refine wpl rfl rfl ht (ev_index_ints ht rfl rfl rfl so_22 (hm.vec_row 1 rfl) et9) ?_
    intro a ht
    refine wpl rfl rfl ht (ev_load ht rfl rfl sc_2 (RowAt.cell (hm.vec_row 1 rfl) (ints_get et9) rfl)) ?_
    intro a ht
    obtain ⟨t10, et10, H⟩ := bind_get H
    have hcall := spec_l09Move.calls q7 _ _ A c m list t9 _ ((fun (hq : Ms _ _ _ ([] ++ [.vec As0_1 cs0_2 2 1 ms0_3 (ints ls0_4), .vec A3 c4 2 1 m5 (ints t2), .vec A2 c2 2 1 m2 (ints ls0_5)]) _ _) => hq.lend (φp := [IntsAt A c m list]) (allRO_cons (hq.lendFact 0 rfl) (allRO_nil))) (hm.pick (own' := [] ++ [.vec As0_1 cs0_2 2 1 ms0_3 (ints ls0_4), .vec A3 c4 2 1 m5 (ints t2), .vec A2 c2 2 1 m2 (ints ls0_5)]) [0, 1, 2] rfl (by decide))) et10
    refine wpl_call _ rfl rfl ht rfl rfl rfl rfl can_45 hcall ?_
    clear hcall
    rintro _ w ⟨A11, c12, m13, rfl, hpost⟩ a ht
    replace hm := (hm.pick (own' := [] ++ [.vec As0_1 cs0_2 2 1 ms0_3 (ints ls0_4), .vec A3 c4 2 1 m5 (ints t2), .vec A2 c2 2 1 m2 (ints ls0_5)]) [0, 1, 2] rfl (by decide)).backL hpost
    clear hpost
    refine wpl rfl rfl ht (ev_move ht rfl rfl) ?_
    intro a ht
    obtain ⟨t14, et14, H⟩ := bind_get H
    have hcall := spec_l09Outcome.calls q7 _ _ A11 c12 m13 A2 c2 m2 n_ t10 ls0_5 _ ((fun (hq : Ms _ _ _ ([.vec A2 c2 2 1 m2 (ints ls0_5)] ++ [.vec A11 c12 2 1 m13 (ints t10), .vec As0_1 cs0_2 2 1 ms0_3 (ints ls0_4), .vec A3 c4 2 1 m5 (ints t2)]) _ _) => hq.lend (φp := [IntsAt A11 c12 m13 t10]) (allRO_cons (hq.lendVec 0 rfl) (allRO_nil))) (hm.pick (own' := [.vec A2 c2 2 1 m2 (ints ls0_5)] ++ [.vec A11 c12 2 1 m13 (ints t10), .vec As0_1 cs0_2 2 1 ms0_3 (ints ls0_4), .vec A3 c4 2 1 m5 (ints t2)]) [3, 0, 1, 2] rfl (by decide))) et14
    refine wpl_call _ rfl rfl ht rfl rfl rfl rfl can_63 hcall ?_
    clear hcall
    rintro _ w ⟨rfl, hpost⟩ a ht
    replace hm := (hm.pick (own' := [.vec A2 c2 2 1 m2 (ints ls0_5)] ++ [.vec A11 c12 2 1 m13 (ints t10), .vec As0_1 cs0_2 2 1 ms0_3 (ints ls0_4), .vec A3 c4 2 1 m5 (ints t2)]) [3, 0, 1, 2] rfl (by decide)).backL hpost
    clear hpost
    refine wpl rfl rfl ht (ev_move ht rfl rfl) ?_
    intro a ht
    refine wpl rfl rfl ht (ev_cmp ht rfl rfl rfl rfl) ?_
    intro a ht
    refine wpList_nil ?_
    refine then_normal ?_
    by_cases h15 : t14.1 = t1.1
    · replace H := ite_yes h15 H
      refine wpc_yes ht rfl (decide_eq_true h15) ?_
      refine wpr ?_
      refine wpl rfl rfl ht (ev_move ht rfl rfl) ?_
      intro a ht
      refine wpl rfl rfl ht (ev_move ht rfl rfl) ?_
      intro a ht
      refine wpl rfl rfl ht (ev_move ht rfl rfl) ?_
      intro a ht
      obtain ⟨t16, et16, H⟩ := bind_get H
      refine wpl rfl rfl ht (ev_index_ints ht rfl rfl rfl so_22 (hm.vec_row 3 rfl) et16) ?_
      intro a ht
      refine wpl rfl rfl ht (ev_load ht rfl rfl sc_2 (RowAt.cell (hm.vec_row 3 rfl) (ints_get et16) rfl)) ?_
      intro a ht
      refine wpl_build_ints (l := [t16]) rfl rfl ht hm rfl und_22 zo_2 sz1_2 (by decide) rfl rfl rfl ?_
      intro A17 a ht w hm
      obtain ⟨l21, el21, H⟩ := bind_get H
      refine wpl_push (r := l21) 3 0 rfl rfl ht hm rfl ap_22 rfl rfl rfl rfl el21 ?_
      intro A18 c19 m20 a ht w hm
      refine wpl rfl rfl ht (ev_assign ht rfl rfl) ?_
      intro a ht
      refine wpList_nil ?_
      refine blk_normal ?_
      refine then_normal ?_
      refine wpr ?_
      refine wpl rfl rfl ht (ev_move ht rfl rfl) ?_
      intro a ht
      refine wpl rfl rfl ht (ev_arith ht rfl rfl rfl rfl) ?_
      intro a ht
      refine wpl rfl rfl ht (ev_assign ht rfl rfl) ?_
      intro a ht
      refine wpList_nil ?_
      exact then_normal ⟨q7, by omega, l21, t14.2, (w64 (xs0_6 + 1)), A18, c19, m20, H, by omega, ht.sub ⟨rfl, rfl, rfl, rfl, rfl, rfl, rfl, rfl, trivial⟩, (hm.pick [3, 4, 1] rfl (by decide)).pickφ [0] rfl⟩
    · replace H := ite_no h15 H
      refine wpc_no ht rfl (decide_eq_false h15) ?_
      refine wp_skip ?_
      refine blk_normal ?_
      refine then_normal ?_
      refine wpr ?_
      refine wpl rfl rfl ht (ev_move ht rfl rfl) ?_
      intro a ht
      refine wpl rfl rfl ht (ev_arith ht rfl rfl rfl rfl) ?_
      intro a ht
      refine wpl rfl rfl ht (ev_assign ht rfl rfl) ?_
      intro a ht
      refine wpList_nil ?_
      exact then_normal ⟨q7, by omega, ls0_4, t14.2, (w64 (xs0_6 + 1)), As0_1, cs0_2, ms0_3, H, by omega, ht.sub ⟨rfl, rfl, rfl, rfl, rfl, rfl, rfl, rfl, trivial⟩, (hm.pick [2, 3, 0] rfl (by decide)).pickφ [0] rfl⟩
  · replace H := ite_no h8 H
    refine wpc_no ht rfl (decide_eq_false h8) ?_
    refine wp_exit ?_
    refine then_exit ?_
    refine then_exit ?_
    refine blk_hit ?_
    refine then_normal ?_
    refine wp_seq ?_
    refine wpr ?_
    refine wpl rfl rfl ht (ev_move ht rfl rfl) ?_
    intro a ht
    refine wpl rfl rfl ht (ev_assign ht rfl rfl) ?_
    intro a ht
    refine wpList_nil ?_
    refine then_normal ?_
    refine wp_ret ?_
    have hres := ht.res (P := Try.prog) (w := w) (rs := [.tmp 6]) (vs := [.slice As0_1 ms0_3 cs0_2]) (.tmp rfl .nil)
    obtain rfl := Option.some.inj H
    exact leave ht rfl hres ⟨As0_1, cs0_2, ms0_3, rfl, ((hm.pick [0, 2] rfl (by decide)).pickφ [] rfl).post fun _ h => h⟩

/-! ### spec_PlayOut: function 17 (loop.example/g01362/spec.PlayOut) -/
def spec_PlayOut.l0 : Nat → Int → List Int → List Int → List Int → Option (List Int × Int)
  | 0, _, _, _, _ => none
  | q9 + 1, n_, ls0_4, ls0_5, ls0_9 => (spec_l09Result.f q9 n_ ls0_9).bind fun t10 => if t10 < 0 then ((spec_l09Best.f q9 n_ ls0_9 ls0_5).bind fun t12 => (getI t12.1 0).bind fun t16 => (push ls0_4 t16).bind fun l21 => (spec_l09Move.f q9 ls0_9 t16).bind fun t22 => spec_PlayOut.l0 q9 n_ l21 t12.2 t22) else (some (ls0_4, 0))
def spec_PlayOut.f (k : Nat) (n_ : Int) (list : List Int) : Option (List Int × Int) := (spec_l09Code.f k n_ list).bind fun t1 => if t1 ≠ 0 then (some (([] : List Int), t1)) else ((spec_l09Table.f k n_).bind fun t4 => spec_PlayOut.l0 k n_ ([] : List Int) t4 list)
set_option maxRecDepth 100000 in
set_option maxHeartbeats 1000000 in
theorem spec_PlayOut.calls (k : Nat) (X : List Nat) (w0 : World) (A : Option Addr) (c : Nat) (m : Nat) (n_ : Int) (list : List Int) (r : List Int × Int)
    (hp : Pre X w0 [] [IntsAt A c m list]) (H : spec_PlayOut.f k n_ list = some r) :
    Calls Try.prog 17 [.int .i64 n_, .slice A m c].toArray w0 (Ret fun v w => ∃ (A_0 : Option Addr) (c_0 : Nat) (n_0 : Nat), v = .tuple [.slice A_0 n_0 c_0, .int .i64 r.2].toArray ∧ Post X (fps []) w0 [.vec A_0 c_0 2 1 n_0 (ints r.1)] [] w) := by
  unfold spec_PlayOut.f at H
  refine enterM (n := 37) hp Try.func17 rfl rfl (Nat.le_of_ble_eq_true rfl) fun a w ht hm => ?_
  refine wp_seq ?_
  refine wpr ?_
  refine wpl rfl rfl ht (ev_assign ht rfl rfl) ?_
  intro a ht
  refine wpl rfl rfl ht (ev_assign ht rfl rfl) ?_
  intro a ht
  refine wpList_nil ?_
  refine then_normal ?_
  refine wp_seq ?_
  refine wp_seq ?_
  refine wpr ?_
  refine wpl rfl rfl ht (ev_move ht rfl rfl) ?_
  intro a ht
  refine wpl rfl rfl ht (ev_move ht rfl rfl) ?_
  intro a ht
  obtain ⟨t1, et1, H⟩ := bind_get H
  have hcall := spec_l09Code.calls k _ _ A c m n_ list _ ((fun (hq : Ms _ _ _ ([] ++ []) _ _) => hq.lend (φp := [IntsAt A c m list]) (allRO_cons (hq.lendFact 0 rfl) (allRO_nil))) (hm.pick (own' := [] ++ []) [] rfl (by decide))) et1
  refine wpl_call _ rfl rfl ht rfl rfl rfl rfl can_41 hcall ?_
  clear hcall
  rintro _ w ⟨rfl, hpost⟩ a ht
  replace hm := (hm.pick (own' := [] ++ []) [] rfl (by decide)).backL hpost
  clear hpost
  refine wpl rfl rfl ht (ev_assign ht rfl rfl) ?_
  intro a ht
  refine wpList_nil ?_
  refine then_normal ?_
  refine wp_seq ?_
  refine wpr ?_
  refine wpl rfl rfl ht (ev_move ht rfl rfl) ?_
  intro a ht
  refine wpl rfl rfl ht (ev_cmp ht rfl rfl rfl rfl) ?_
  intro a ht
  refine wpList_nil ?_
  refine then_normal ?_
  by_cases h2 : t1 ≠ 0
  · replace H := ite_yes h2 H
    refine wpc_yes ht rfl (decide_eq_true h2) ?_
    refine wp_seq ?_
    refine wpr ?_
    refine wpl rfl rfl ht (ev_move ht rfl rfl) ?_
    intro a ht
    refine wpl rfl rfl ht (ev_assign ht rfl rfl) ?_
    intro a ht
    refine wpl rfl rfl ht (ev_assign ht rfl rfl) ?_
    intro a ht
    refine wpList_nil ?_
    refine then_normal ?_
    refine wp_ret ?_
    refine then_ret ?_
    have hres := ht.res (P := Try.prog) (w := w) (rs := [.tmp 4, .tmp 5]) (vs := [.slice none 0 0, .int .i64 t1]) (.tmp rfl (.tmp rfl .nil))
    replace hm : Ms _ _ _ (.vec none 0 2 1 0 (ints ([] : List Int)) :: _) _ w := hm.nilVec none 2 1
    obtain rfl := Option.some.inj H
    exact leave ht rfl hres ⟨none, 0, 0, rfl, ((hm.pick [0] rfl (by decide)).pickφ [] rfl).post fun _ h => h⟩
  · replace H := ite_no h2 H
    refine wpc_no ht rfl (decide_eq_false h2) ?_
    refine wp_skip ?_
    refine then_normal ?_
    refine wp_seq ?_
    refine wpr ?_
    refine wpl rfl rfl ht (ev_move ht rfl rfl) ?_
    intro a ht
    obtain ⟨t4, et4, H⟩ := bind_get H
    have hcall := spec_l09Table.calls k _ _ n_ _ ((fun (hq : Ms _ _ _ ([] ++ []) _ _) => hq.lend (φp := []) (allRO_nil)) (hm.pick (own' := [] ++ []) [] rfl (by decide))) et4
    refine wpl_call _ rfl rfl ht rfl rfl rfl rfl can_42 hcall ?_
    clear hcall
    rintro _ w ⟨A5, c6, m7, rfl, hpost⟩ a ht
    replace hm := (hm.pick (own' := [] ++ []) [] rfl (by decide)).backL hpost
    clear hpost
    refine wpl_build_ints (l := ([] : List Int)) rfl rfl ht hm rfl und_22 zo_2 sz1_2 (by decide) rfl rfl rfl ?_
    intro A8 a ht w hm
    refine wpl rfl rfl ht (ev_assign ht rfl rfl) ?_
    intro a ht
    refine wpl rfl rfl ht (ev_assign ht rfl rfl) ?_
    intro a ht
    refine wpList_nil ?_
    refine then_normal ?_
    refine wp_seq ?_
    refine wp_block ?_
    refine wpLoop (fun q a w => ∃ (ls0_4 : List Int) (ls0_5 : List Int) (ls0_9 : List Int) (As0_1 : Option Addr) (cs0_2 : Nat) (ms0_3 : Nat) (As0_6 : Option Addr) (cs0_7 : Nat) (ms0_8 : Nat), spec_PlayOut.l0 q n_ ls0_4 ls0_5 ls0_9 = some r ∧ q ≤ k ∧ Tm 37 [(0, .int .i64 n_), (4, .slice none 0 0), (5, .int .i64 0), (7, .slice A5 m7 c6), (8, .slice As0_1 ms0_3 cs0_2), (1, .slice As0_6 ms0_8 cs0_7)] a ∧ Ms X (fps []) w0 [.vec As0_1 cs0_2 2 1 ms0_3 (ints ls0_4), .vec A5 c6 2 1 m7 (ints ls0_5)] [IntsAt As0_6 cs0_7 ms0_8 ls0_9, IntsAt A c m list] w) (k0 := k) ⟨([] : List Int), t4, list, A8, 0, 0, A, c, m, H, Nat.le_refl _, ht.sub ⟨rfl, rfl, rfl, rfl, rfl, rfl, trivial⟩, (hm.pick [0, 1] rfl (by decide)).pickφ [0, 0] rfl⟩ ?_
    clear H ht hm
    intro q9 a w hJ
    obtain ⟨ls0_4, ls0_5, ls0_9, As0_1, cs0_2, ms0_3, As0_6, cs0_7, ms0_8, H, hqq9, ht, hm⟩ := hJ
    cases q9 with
    | zero => cases H
    | succ q9 =>
    rw [spec_PlayOut.l0] at H
    refine wp_seq ?_
    refine wp_seq ?_
    refine wpr ?_
    refine wpl rfl rfl ht (ev_move ht rfl rfl) ?_
    intro a ht
    refine wpl rfl rfl ht (ev_move ht rfl rfl) ?_
    intro a ht
    obtain ⟨t10, et10, H⟩ := bind_get H
    have hcall := spec_l09Result.calls q9 _ _ As0_6 cs0_7 ms0_8 n_ ls0_9 _ ((fun (hq : Ms _ _ _ ([] ++ [.vec As0_1 cs0_2 2 1 ms0_3 (ints ls0_4), .vec A5 c6 2 1 m7 (ints ls0_5)]) _ _) => hq.lend (φp := [IntsAt As0_6 cs0_7 ms0_8 ls0_9]) (allRO_cons (hq.lendFact 0 rfl) (allRO_nil))) (hm.pick (own' := [] ++ [.vec As0_1 cs0_2 2 1 ms0_3 (ints ls0_4), .vec A5 c6 2 1 m7 (ints ls0_5)]) [0, 1] rfl (by decide))) et10
    refine wpl_call _ rfl rfl ht rfl rfl rfl rfl can_43 hcall ?_
    clear hcall
    rintro _ w ⟨rfl, hpost⟩ a ht
    replace hm := (hm.pick (own' := [] ++ [.vec As0_1 cs0_2 2 1 ms0_3 (ints ls0_4), .vec A5 c6 2 1 m7 (ints ls0_5)]) [0, 1] rfl (by decide)).backL hpost
    clear hpost
    refine wpl rfl rfl ht (ev_cmp ht rfl rfl rfl rfl) ?_
    intro a ht
    refine wpList_nil ?_
    refine then_normal ?_
    by_cases h11 : t10 < 0
    · replace H := ite_yes h11 H
      refine wpc_yes ht rfl (decide_eq_true h11) ?_
      refine wp_skip ?_
      refine then_normal ?_
      refine wp_block ?_
      refine wp_seq ?_
      refine wpr ?_
      refine wpl rfl rfl ht (ev_move ht rfl rfl) ?_
      intro a ht
      refine wpl rfl rfl ht (ev_move ht rfl rfl) ?_
      intro a ht
      refine wpl rfl rfl ht (ev_move ht rfl rfl) ?_
      intro a ht
      obtain ⟨t12, et12, H⟩ := bind_get H
      have hcall := spec_l09Best.calls q9 _ _ As0_6 cs0_7 ms0_8 A5 c6 m7 n_ ls0_9 ls0_5 _ ((fun (hq : Ms _ _ _ ([.vec A5 c6 2 1 m7 (ints ls0_5)] ++ [.vec As0_1 cs0_2 2 1 ms0_3 (ints ls0_4)]) _ _) => hq.lend (φp := [IntsAt As0_6 cs0_7 ms0_8 ls0_9]) (allRO_cons (hq.lendFact 0 rfl) (allRO_nil))) (hm.pick (own' := [.vec A5 c6 2 1 m7 (ints ls0_5)] ++ [.vec As0_1 cs0_2 2 1 ms0_3 (ints ls0_4)]) [1, 0] rfl (by decide))) et12
      refine wpl_call _ rfl rfl ht rfl rfl rfl rfl can_44 hcall ?_
      clear hcall
      rintro _ w ⟨A13, c14, m15, rfl, hpost⟩ a ht
      replace hm := (hm.pick (own' := [.vec A5 c6 2 1 m7 (ints ls0_5)] ++ [.vec As0_1 cs0_2 2 1 ms0_3 (ints ls0_4)]) [1, 0] rfl (by decide)).backL hpost
      clear hpost
      obtain ⟨t16, et16, H⟩ := bind_get H
      refine wpl rfl rfl ht (ev_index_ints ht rfl rfl rfl so_22 (hm.vec_row 0 rfl) et16) ?_
      intro a ht
      refine wpl rfl rfl ht (ev_load ht rfl rfl sc_2 (RowAt.cell (hm.vec_row 0 rfl) (ints_get et16) rfl)) ?_
      intro a ht
      refine wpl rfl rfl ht (ev_assign ht rfl rfl) ?_
      intro a ht
      refine wpList_nil ?_
      refine then_normal ?_
      refine wp_seq ?_
      refine wpr ?_
      refine wpl rfl rfl ht (ev_move ht rfl rfl) ?_
      intro a ht
      refine wpl rfl rfl ht (ev_move ht rfl rfl) ?_
      intro a ht
      refine wpl_build_ints (l := [t16]) rfl rfl ht hm rfl und_22 zo_2 sz1_2 (by decide) rfl rfl rfl ?_
      intro A17 a ht w hm
      obtain ⟨l21, el21, H⟩ := bind_get H
      refine wpl_push (r := l21) 3 0 rfl rfl ht hm rfl ap_22 rfl rfl rfl rfl el21 ?_
      intro A18 c19 m20 a ht w hm
      refine wpl rfl rfl ht (ev_assign ht rfl rfl) ?_
      intro a ht
      refine wpList_nil ?_
      refine then_normal ?_
      refine wpr ?_
      refine wpl rfl rfl ht (ev_move ht rfl rfl) ?_
      intro a ht
      refine wpl rfl rfl ht (ev_move ht rfl rfl) ?_
      intro a ht
      obtain ⟨t22, et22, H⟩ := bind_get H
      have hcall := spec_l09Move.calls q9 _ _ As0_6 cs0_7 ms0_8 ls0_9 t16 _ ((fun (hq : Ms _ _ _ ([] ++ [.vec A17 1 2 1 1 (ints ([t16])), .vec A13 c14 2 1 m15 (ints t12.1), .vec A5 c6 2 1 m7 (ints t12.2), .vec A18 c19 2 1 m20 (ints l21)]) _ _) => hq.lend (φp := [IntsAt As0_6 cs0_7 ms0_8 ls0_9]) (allRO_cons (hq.lendFact 0 rfl) (allRO_nil))) (hm.pick (own' := [] ++ [.vec A17 1 2 1 1 (ints ([t16])), .vec A13 c14 2 1 m15 (ints t12.1), .vec A5 c6 2 1 m7 (ints t12.2), .vec A18 c19 2 1 m20 (ints l21)]) [0, 1, 2, 3] rfl (by decide))) et22
      refine wpl_call _ rfl rfl ht rfl rfl rfl rfl can_45 hcall ?_
      clear hcall
      rintro _ w ⟨A23, c24, m25, rfl, hpost⟩ a ht
      replace hm := (hm.pick (own' := [] ++ [.vec A17 1 2 1 1 (ints ([t16])), .vec A13 c14 2 1 m15 (ints t12.1), .vec A5 c6 2 1 m7 (ints t12.2), .vec A18 c19 2 1 m20 (ints l21)]) [0, 1, 2, 3] rfl (by decide)).backL hpost
      clear hpost
      refine wpl rfl rfl ht (ev_assign ht rfl rfl) ?_
      intro a ht
      refine wpList_nil ?_
      refine blk_normal ?_
      replace hm : Ms _ _ _ _ (IntsAt A23 c24 m25 t22 :: _) w := hm.shutVec 0 rfl
      exact then_normal ⟨q9, by omega, l21, t12.2, t22, A18, c19, m20, A23, c24, m25, H, by omega, ht.sub ⟨rfl, rfl, rfl, rfl, rfl, rfl, trivial⟩, (hm.pick [3, 2] rfl (by decide)).pickφ [0, 2] rfl⟩
    · replace H := ite_no h11 H
      refine wpc_no ht rfl (decide_eq_false h11) ?_
      refine wp_exit ?_
      refine then_exit ?_
      refine then_exit ?_
      refine blk_hit ?_
      refine then_normal ?_
      refine wp_seq ?_
      refine wpr ?_
      refine wpl rfl rfl ht (ev_move ht rfl rfl) ?_
      intro a ht
      refine wpl rfl rfl ht (ev_assign ht rfl rfl) ?_
      intro a ht
      refine wpl rfl rfl ht (ev_assign ht rfl rfl) ?_
      intro a ht
      refine wpList_nil ?_
      refine then_normal ?_
      refine wp_ret ?_
      have hres := ht.res (P := Try.prog) (w := w) (rs := [.tmp 4, .tmp 5]) (vs := [.slice As0_1 ms0_3 cs0_2, .int .i64 0]) (.tmp rfl (.tmp rfl .nil))
      obtain rfl := Option.some.inj H
      exact leave ht rfl hres ⟨As0_1, cs0_2, ms0_3, rfl, ((hm.pick [0] rfl (by decide)).pickφ [] rfl).post fun _ h => h⟩

/-! ### impl_in: function 58 (loop.example/g01362/impl.in) -/
def impl_in.f (n_ : Int) (low : Int) (high : Int) : Option (Bool) := if n_ ≥ low then (some (decide (n_ ≤ high))) else (some false)
set_option maxRecDepth 100000 in
set_option maxHeartbeats 1000000 in
theorem impl_in.calls (X : List Nat) (w0 : World)  (n_ : Int) (low : Int) (high : Int) (r : Bool)
    (hp : Pre X w0 [] []) (H : impl_in.f n_ low high = some r) :
    Calls Try.prog 58 [.int .i64 n_, .int .i64 low, .int .i64 high].toArray w0 (Ret fun v w => v = .bool r ∧ Post X (fps []) w0 [] [] w) := by
  unfold impl_in.f at H
  refine enterM (n := 15) hp Try.func58 rfl rfl (Nat.le_of_ble_eq_true rfl) fun a w ht hm => ?_
  refine wp_seq ?_
  refine wpr ?_
  refine wpl rfl rfl ht (ev_assign ht rfl rfl) ?_
  intro a ht
  refine wpList_nil ?_
  refine then_normal ?_
  refine wp_seq ?_
  refine wpr ?_
  refine wpl rfl rfl ht (ev_move ht rfl rfl) ?_
  intro a ht
  refine wpl rfl rfl ht (ev_move ht rfl rfl) ?_
  intro a ht
  refine wpl rfl rfl ht (ev_cmp ht rfl rfl rfl rfl) ?_
  intro a ht
  refine wpl rfl rfl ht (ev_move ht rfl rfl) ?_
  intro a ht
  by_cases h1 : n_ ≥ low
  · replace H := ite_yes h1 H
    refine wpl_yes rfl ht rfl ((decide_eq_true h1)) ?_
    refine wpl rfl rfl ht (ev_move ht rfl rfl) ?_
    intro a ht
    refine wpl_yes rfl ht rfl ((decide_eq_true h1)) ?_
    refine wpl rfl rfl ht (ev_move ht rfl rfl) ?_
    intro a ht
    refine wpl_yes rfl ht rfl ((decide_eq_true h1)) ?_
    refine wpl rfl rfl ht (ev_cmp ht rfl rfl rfl rfl) ?_
    intro a ht
    refine wpl rfl rfl ht (ev_pick_yes ht rfl rfl (decide_eq_true h1) rfl) ?_
    intro a ht
    refine wpl rfl rfl ht (ev_assign ht rfl rfl) ?_
    intro a ht
    refine wpList_nil ?_
    refine then_normal ?_
    refine wp_ret ?_
    have hres := ht.res (P := Try.prog) (w := w) (rs := [.tmp 6]) (vs := [.bool (decide (n_ ≤ high))]) (.tmp rfl .nil)
    obtain rfl := Option.some.inj H
    exact leave ht rfl hres ⟨rfl, ((hm.pick [] rfl (by decide)).pickφ [] rfl).post fun _ h => h⟩
  · replace H := ite_no h1 H
    refine wpl_no rfl rfl ht rfl (by rw [(decide_eq_false h1)]; decide) ?_
    intro a ht
    refine wpl_no rfl rfl ht rfl (by rw [(decide_eq_false h1)]; decide) ?_
    intro a ht
    refine wpl_no rfl rfl ht rfl (by rw [(decide_eq_false h1)]; decide) ?_
    intro a ht
    refine wpl rfl rfl ht (ev_pick_no ht rfl rfl (decide_eq_false h1) rfl) ?_
    intro a ht
    refine wpl rfl rfl ht (ev_assign ht rfl rfl) ?_
    intro a ht
    refine wpList_nil ?_
    refine then_normal ?_
    refine wp_ret ?_
    have hres := ht.res (P := Try.prog) (w := w) (rs := [.tmp 6]) (vs := [.bool false]) (.tmp rfl .nil)
    obtain rfl := Option.some.inj H
    exact leave ht rfl hres ⟨rfl, ((hm.pick [] rfl (by decide)).pickφ [] rfl).post fun _ h => h⟩

/-! ### impl_size_int64: function 59 (loop.example/g01362/impl.size[int64]) -/
def impl_size_int64.f (list : List Int) : Option (Int) := some (list.length : Int)
set_option maxRecDepth 100000 in
set_option maxHeartbeats 1000000 in
theorem impl_size_int64.calls (X : List Nat) (w0 : World) (A : Option Addr) (c : Nat) (m : Nat) (list : List Int) (r : Int)
    (hp : Pre X w0 [] [IntsAt A c m list]) (H : impl_size_int64.f list = some r) :
    Calls Try.prog 59 [.slice A m c].toArray w0 (Ret fun v w => v = .int .i64 r ∧ Post X (fps []) w0 [] [] w) := by
  unfold impl_size_int64.f at H
  refine enterM (n := 5) hp Try.func59 rfl rfl (Nat.le_of_ble_eq_true rfl) fun a w ht hm => ?_
  refine wp_seq ?_
  refine wpr ?_
  refine wpl rfl rfl ht (ev_assign ht rfl rfl) ?_
  intro a ht
  refine wpList_nil ?_
  refine then_normal ?_
  refine wp_seq ?_
  refine wpr ?_
  refine wpl rfl rfl ht (ev_move ht rfl rfl) ?_
  intro a ht
  refine wpl rfl rfl ht (ev_len_of ht rfl rfl und_22 (hm.fact (φ := IntsAt A c m list) 0 rfl)) ?_
  intro a ht
  refine wpl rfl rfl ht (ev_assign ht rfl rfl) ?_
  intro a ht
  refine wpList_nil ?_
  refine then_normal ?_
  refine wp_ret ?_
  have hres := ht.res (P := Try.prog) (w := w) (rs := [.tmp 2]) (vs := [.int .i64 (list.length : Int)]) (.tmp rfl .nil)
  obtain rfl := Option.some.inj H
  exact leave ht rfl hres ⟨rfl, ((hm.pick [] rfl (by decide)).pickφ [] rfl).post fun _ h => h⟩

/-! ### impl_areIn_1: function 88 (loop.example/g01362/impl.areIn$1) -/
def impl_areIn_1.f (n_ : Int) (x : Int) (x2 : Int) : Option (Bool) := (impl_in.f n_ x x2).bind fun t1 => some !t1
set_option maxRecDepth 100000 in
set_option maxHeartbeats 1000000 in
theorem impl_areIn_1.calls (X : List Nat) (w0 : World) (b : Nat) (b2 : Nat) (n_ : Int) (x : Int) (x2 : Int) (r : Bool)
    (hp : Pre X w0 [.blk b 2 [.int .i64 x], .blk b2 2 [.int .i64 x2]] []) (H : impl_areIn_1.f n_ x x2 = some r) :
    Calls Try.prog 88 [.int .i64 n_, .pointer (some ⟨b, 0, none⟩), .pointer (some ⟨b2, 0, none⟩)].toArray w0 (Ret fun v w => v = .bool r ∧ Post X (fps [.blk b 2 [.int .i64 x], .blk b2 2 [.int .i64 x2]]) w0 [.blk b 2 [.int .i64 x], .blk b2 2 [.int .i64 x2]] [] w) := by
  unfold impl_areIn_1.f at H
  refine enterM (n := 10) hp Try.func88 rfl rfl (Nat.le_of_ble_eq_true rfl) fun a w ht hm => ?_
  refine wp_seq ?_
  refine wpr ?_
  refine wpl rfl rfl ht (ev_assign ht rfl rfl) ?_
  intro a ht
  refine wpList_nil ?_
  refine then_normal ?_
  refine wp_seq ?_
  refine wpr ?_
  refine wpl rfl rfl ht (ev_move ht rfl rfl) ?_
  intro a ht
  refine wpl rfl rfl ht (ev_load ht rfl rfl sc_2 (hm.blk_cell 0 rfl rfl)) ?_
  intro a ht
  refine wpl rfl rfl ht (ev_load ht rfl rfl sc_2 (hm.blk_cell 1 rfl rfl)) ?_
  intro a ht
  obtain ⟨t1, et1, H⟩ := bind_get H
  have hcall := impl_in.calls _ _ n_ x x2 _ ((fun (hq : Ms _ _ _ ([] ++ [.blk b 2 [.int .i64 x], .blk b2 2 [.int .i64 x2]]) _ _) => hq.lend (φp := []) (allRO_nil)) (hm.pick (own' := [] ++ [.blk b 2 [.int .i64 x], .blk b2 2 [.int .i64 x2]]) [0, 1] rfl (by decide))) et1
  refine wpl_call _ rfl rfl ht rfl rfl rfl rfl can_58 hcall ?_
  clear hcall
  rintro _ w ⟨rfl, hpost⟩ a ht
  replace hm := (hm.pick (own' := [] ++ [.blk b 2 [.int .i64 x], .blk b2 2 [.int .i64 x2]]) [0, 1] rfl (by decide)).backL hpost
  clear hpost
  refine wpl rfl rfl ht (ev_not ht rfl rfl) ?_
  intro a ht
  refine wpl rfl rfl ht (ev_assign ht rfl rfl) ?_
  intro a ht
  refine wpList_nil ?_
  refine then_normal ?_
  refine wp_ret ?_
  have hres := ht.res (P := Try.prog) (w := w) (rs := [.tmp 4]) (vs := [.bool !t1]) (.tmp rfl .nil)
  obtain rfl := Option.some.inj H
  exact leave ht rfl hres ⟨rfl, ((hm.pick [0, 1] rfl (by decide)).pickφ [] rfl).post fun _ h => h⟩

end Go.Proofs.Ytfbdcidedjocdaa.G
