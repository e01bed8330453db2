/- What each Go function computes, as a Lean function, and the proof that it does: written by a program of this session (wip/gen), part 3. -/
import Derived.Test.YtfbdcidedjocdaaGFnExactPlayOut2
namespace Go.Proofs.Ytfbdcidedjocdaa.G
open Go Go.RowKit Go.Proofs.Ytfbdcidedjocdaa.K
set_option linter.unusedVariables false
set_option linter.unusedSimpArgs false

/-! ### spec_l09Table: function 42 (loop.example/g01362/spec.l09Table) -/
mutual
def spec_l09Table.l0 : Nat → Int → Int → Int → Option (List Int)
  | 0, _, _, _ => none
  | q1 + 1, n_, xs0_1, xs0_2 => if xs0_2 < (w64 (Int.tdiv (w64 (n_ * (w64 (n_ - 1)))) 2)) then (spec_l09Table.l0 q1 n_ (w64 (xs0_1 * 3)) (w64 (xs0_2 + 1))) else ((guardO (0 ≤ xs0_1 ∧ xs0_1 ≤ 1073741824)).bind fun _ => spec_l09Table.l1 q1 xs0_1 (List.replicate xs0_1.toNat (0 : Int)) 0)
def spec_l09Table.l1 : Nat → Int → List Int → Int → Option (List Int)
  | 0, _, _, _ => none
  | q7 + 1, xs0_1, ls1_1, xs1_2 => if xs1_2 < ((List.replicate xs0_1.toNat (0 : Int)).length : Int) then ((getI ls1_1 xs1_2).bind fun t9 => spec_l09Table.l1 q7 xs0_1 (ls1_1.set xs1_2.toNat (-1)) (w64 (xs1_2 + 1))) else (some ls1_1)
end
def spec_l09Table.f (k : Nat) (n_ : Int) : Option (List Int) := spec_l09Table.l0 k n_ 1 0
set_option maxRecDepth 100000 in
set_option maxHeartbeats 1000000 in
theorem spec_l09Table.calls (k : Nat) (X : List Nat) (w0 : World)  (n_ : Int) (r : List Int)
    (hp : Pre X w0 [] []) (H : spec_l09Table.f k n_ = some r) :
    Calls Try.prog 42 [.int .i64 n_].toArray w0 (Ret fun v w => ∃ (A_0 : Option Addr) (c_0 : Nat) (n_0 : Nat), v = .slice A_0 n_0 c_0 ∧ Post X (fps []) w0 [.vec A_0 c_0 2 1 n_0 (ints r)] [] w) := by
  unfold spec_l09Table.f at H
  refine enterM (n := 30) hp Try.func42 rfl rfl (Nat.le_of_ble_eq_true rfl) fun a w ht hm => ?_
  refine wp_seq ?_
  refine wpr ?_
  refine wpl rfl rfl ht (ev_assign ht rfl rfl) ?_
  intro a ht
  refine wpList_nil ?_
  refine then_normal ?_
  refine wp_seq ?_
  refine wpr ?_
  refine wpl rfl rfl ht (ev_assign ht rfl rfl) ?_
  intro a ht
  refine wpList_nil ?_
  refine then_normal ?_
  refine wp_seq ?_
  refine wp_seq ?_
  refine wpr ?_
  refine wpl rfl rfl ht (ev_assign ht rfl rfl) ?_
  intro a ht
  refine wpList_nil ?_
  refine then_normal ?_
  refine wp_block ?_
  refine wpLoop (fun q a w => ∃ (xs0_1 : Int) (xs0_2 : Int), spec_l09Table.l0 q n_ xs0_1 xs0_2 = some r ∧ q ≤ k ∧ Tm 30 [(0, .int .i64 n_), (2, .slice none 0 0), (3, .int .i64 xs0_1), (4, .int .i64 xs0_2)] a ∧ Ms X (fps []) w0 [] [] w) (k0 := k) ⟨1, 0, H, Nat.le_refl _, ht.sub ⟨rfl, rfl, rfl, rfl, trivial⟩, (hm.pick [] rfl (by decide)).pickφ [] rfl⟩ ?_
  clear H ht hm
  intro q1 a w hJ
  obtain ⟨xs0_1, xs0_2, H, hqq1, ht, hm⟩ := hJ
  cases q1 with
  | zero => cases H
  | succ q1 =>
  rw [spec_l09Table.l0] at H
  refine wp_seq ?_
  refine wp_seq ?_
  refine wpr ?_
  refine wpl rfl rfl ht (ev_move ht rfl rfl) ?_
  intro a ht
  refine wpl rfl rfl ht (ev_move ht rfl rfl) ?_
  intro a ht
  refine wpl rfl rfl ht (ev_move ht rfl rfl) ?_
  intro a ht
  refine wpl rfl rfl ht (ev_arith ht rfl rfl rfl rfl) ?_
  intro a ht
  refine wpl rfl rfl ht (ev_arith ht rfl rfl rfl rfl) ?_
  intro a ht
  refine wpl rfl rfl ht (ev_quo ht rfl rfl rfl (by decide)) ?_
  intro a ht
  refine wpl rfl rfl ht (ev_cmp ht rfl rfl rfl rfl) ?_
  intro a ht
  refine wpList_nil ?_
  refine then_normal ?_
  by_cases h2 : xs0_2 < (w64 (Int.tdiv (w64 (n_ * (w64 (n_ - 1)))) 2))
  · replace H := ite_yes h2 H
    refine wpc_yes ht rfl (decide_eq_true h2) ?_
    refine wp_skip ?_
    refine then_normal ?_
    refine wp_seq ?_
    refine wp_block ?_
    refine wpr ?_
    refine wpl rfl rfl ht (ev_move ht rfl rfl) ?_
    intro a ht
    refine wpl rfl rfl ht (ev_arith ht rfl rfl rfl rfl) ?_
    intro a ht
    refine wpl rfl rfl ht (ev_assign ht rfl rfl) ?_
    intro a ht
    refine wpList_nil ?_
    refine blk_normal ?_
    refine then_normal ?_
    refine wpr ?_
    refine wpl rfl rfl ht (ev_move ht rfl rfl) ?_
    intro a ht
    refine wpl rfl rfl ht (ev_arith ht rfl rfl rfl rfl) ?_
    intro a ht
    refine wpl rfl rfl ht (ev_assign ht rfl rfl) ?_
    intro a ht
    refine wpList_nil ?_
    exact then_normal ⟨q1, by omega, (w64 (xs0_1 * 3)), (w64 (xs0_2 + 1)), H, by omega, ht.sub ⟨rfl, rfl, rfl, rfl, trivial⟩, (hm.pick [] rfl (by decide)).pickφ [] rfl⟩
  · replace H := ite_no h2 H
    refine wpc_no ht rfl (decide_eq_false h2) ?_
    refine wp_exit ?_
    refine then_exit ?_
    refine then_exit ?_
    refine blk_hit ?_
    refine then_normal ?_
    refine wp_seq ?_
    refine wpr ?_
    refine wpl rfl rfl ht (ev_move ht rfl rfl) ?_
    intro a ht
    obtain ⟨u4, eu4, H⟩ := bind_get H
    refine wpl_make_ints rfl rfl ht hm rfl und_22 zo_2 sz1_2 by_2 rfl rfl (guardO_get eu4) ?_
    intro A3 m5 c6 a ht w hm
    refine wpl rfl rfl ht (ev_assign ht rfl rfl) ?_
    intro a ht
    refine wpList_nil ?_
    refine then_normal ?_
    refine wp_seq ?_
    refine wp_seq ?_
    refine wpr ?_
    refine wpl rfl rfl ht (ev_move ht rfl rfl) ?_
    intro a ht
    refine wpl rfl rfl ht (ev_len_of ht rfl rfl und_22 (hm.vec_row 0 rfl)) ?_
    intro a ht
    refine wpl rfl rfl ht (ev_move ht rfl rfl) ?_
    intro a ht
    refine wpList_nil ?_
    refine then_normal ?_
    refine wp_block ?_
    refine wpLoop (fun q a w => ∃ (ls1_1 : List Int) (xs1_2 : Int), spec_l09Table.l1 q xs0_1 ls1_1 xs1_2 = some r ∧ q ≤ q1 ∧ Tm 30 [(2, .slice none 0 0), (5, .slice A3 m5 c6), (21, .int .i64 ((List.replicate xs0_1.toNat (0 : Int)).length : Int)), (22, .int .i64 xs1_2)] a ∧ Ms X (fps []) w0 [.vec A3 c6 2 1 m5 (ints ls1_1)] [] w) (k0 := q1) ⟨(List.replicate xs0_1.toNat (0 : Int)), 0, H, Nat.le_refl _, ht.sub ⟨rfl, rfl, rfl, rfl, trivial⟩, (hm.pick [0] rfl (by decide)).pickφ [] rfl⟩ ?_
    clear H ht hm
    intro q7 a w hJ
    obtain ⟨ls1_1, xs1_2, H, hqq7, ht, hm⟩ := hJ
    cases q7 with
    | zero => cases H
    | succ q7 =>
    rw [spec_l09Table.l1] at H
    refine wp_seq ?_
    refine wpr ?_
    refine wpl rfl rfl ht (ev_cmp ht rfl rfl rfl rfl) ?_
    intro a ht
    refine wpList_nil ?_
    refine then_normal ?_
    refine wp_seq ?_
    by_cases h8 : xs1_2 < ((List.replicate xs0_1.toNat (0 : Int)).length : Int)
    · replace H := ite_yes h8 H
      refine wpc_yes ht rfl (decide_eq_true h8) ?_
      refine wp_skip ?_
      refine then_normal ?_
      refine wp_seq ?_
      refine wp_block ?_
      refine wp_seq ?_
      refine wpr ?_
      refine wpl rfl rfl ht (ev_move ht rfl rfl) ?_
      intro a ht
      refine wpl rfl rfl ht (ev_assign ht rfl rfl) ?_
      intro a ht
      refine wpList_nil ?_
      refine then_normal ?_
      refine wpr ?_
      refine wpl rfl rfl ht (ev_move ht rfl rfl) ?_
      intro a ht
      refine wpl rfl rfl ht (ev_move ht rfl rfl) ?_
      intro a ht
      obtain ⟨t9, et9, H⟩ := bind_get H
      refine wpl rfl rfl ht (ev_index_ints ht rfl rfl rfl so_22 (hm.vec_row 0 rfl) et9) ?_
      intro a ht
      refine wpl_store_int 0 rfl rfl ht hm rfl rfl rfl sz1_2 rfl et9 ?_
      intro a ht w hm
      refine wpList_nil ?_
      refine blk_normal ?_
      refine then_normal ?_
      refine wpr ?_
      refine wpl rfl rfl ht (ev_arith ht rfl rfl rfl rfl) ?_
      intro a ht
      refine wpl rfl rfl ht (ev_move ht rfl rfl) ?_
      intro a ht
      refine wpList_nil ?_
      exact then_normal ⟨q7, by omega, (ls1_1.set xs1_2.toNat (-1)), (w64 (xs1_2 + 1)), H, by omega, ht.sub ⟨rfl, rfl, rfl, rfl, trivial⟩, (hm.pick [0] rfl (by decide)).pickφ [] rfl⟩
    · replace H := ite_no h8 H
      refine wpc_no ht rfl (decide_eq_false h8) ?_
      refine wp_exit ?_
      refine then_exit ?_
      refine then_exit ?_
      refine blk_hit ?_
      refine then_normal ?_
      refine wp_seq ?_
      refine wpr ?_
      refine wpl rfl rfl ht (ev_move ht rfl rfl) ?_
      intro a ht
      refine wpl rfl rfl ht (ev_assign ht rfl rfl) ?_
      intro a ht
      refine wpList_nil ?_
      refine then_normal ?_
      refine wp_ret ?_
      have hres := ht.res (P := Try.prog) (w := w) (rs := [.tmp 2]) (vs := [.slice A3 m5 c6]) (.tmp rfl .nil)
      obtain rfl := Option.some.inj H
      exact leave ht rfl hres ⟨A3, c6, m5, rfl, ((hm.pick [0] rfl (by decide)).pickφ [] rfl).post fun _ h => h⟩

/-! ### spec_l09Free: function 75 (loop.example/g01362/spec.l09Free) -/
def spec_l09Free.l0 : Nat → List Int → List Int → Int → Option (List Int)
  | 0, _, _, _ => none
  | q2 + 1, list, ls0_4, xs0_5 => if xs0_5 < (list.length : Int) then ((getI list xs0_5).bind fun t4 => if t4 < 0 then ((push ls0_4 xs0_5).bind fun l10 => spec_l09Free.l0 q2 list l10 (w64 (xs0_5 + 1))) else (spec_l09Free.l0 q2 list ls0_4 (w64 (xs0_5 + 1)))) else (some ls0_4)
def spec_l09Free.f (k : Nat) (list : List Int) : Option (List Int) := spec_l09Free.l0 k list ([] : List Int) 0
set_option maxRecDepth 100000 in
set_option maxHeartbeats 1000000 in
theorem spec_l09Free.calls (k : Nat) (X : List Nat) (w0 : World) (A : Option Addr) (c : Nat) (m : Nat) (list : List Int) (r : List Int)
    (hp : Pre X w0 [] [IntsAt A c m list]) (H : spec_l09Free.f k list = some r) :
    Calls Try.prog 75 [.slice A m c].toArray w0 (Ret fun v w => ∃ (A_0 : Option Addr) (c_0 : Nat) (n_0 : Nat), v = .slice A_0 n_0 c_0 ∧ Post X (fps []) w0 [.vec A_0 c_0 2 1 n_0 (ints r)] [] w) := by
  unfold spec_l09Free.f at H
  refine enterM (n := 22) hp Try.func75 rfl rfl (Nat.le_of_ble_eq_true rfl) fun a w ht hm => ?_
  refine wp_seq ?_
  refine wpr ?_
  refine wpl rfl rfl ht (ev_assign ht rfl rfl) ?_
  intro a ht
  refine wpList_nil ?_
  refine then_normal ?_
  refine wp_seq ?_
  refine wpr ?_
  refine wpl_build_ints (l := ([] : List Int)) rfl rfl ht hm rfl und_22 zo_2 sz1_2 (by decide) rfl rfl rfl ?_
  intro A1 a ht w hm
  refine wpl rfl rfl ht (ev_assign ht rfl rfl) ?_
  intro a ht
  refine wpList_nil ?_
  refine then_normal ?_
  refine wp_seq ?_
  refine wp_seq ?_
  refine wpr ?_
  refine wpl rfl rfl ht (ev_assign ht rfl rfl) ?_
  intro a ht
  refine wpList_nil ?_
  refine then_normal ?_
  refine wp_block ?_
  refine wpLoop (fun q a w => ∃ (ls0_4 : List Int) (xs0_5 : Int) (As0_1 : Option Addr) (cs0_2 : Nat) (ms0_3 : Nat), spec_l09Free.l0 q list ls0_4 xs0_5 = some r ∧ q ≤ k ∧ Tm 22 [(0, .slice A m c), (2, .slice none 0 0), (3, .slice As0_1 ms0_3 cs0_2), (4, .int .i64 xs0_5)] a ∧ Ms X (fps []) w0 [.vec As0_1 cs0_2 2 1 ms0_3 (ints ls0_4)] [IntsAt A c m list] w) (k0 := k) ⟨([] : List Int), 0, A1, 0, 0, H, Nat.le_refl _, ht.sub ⟨rfl, rfl, rfl, rfl, trivial⟩, (hm.pick [0] rfl (by decide)).pickφ [0] rfl⟩ ?_
  clear H ht hm
  intro q2 a w hJ
  obtain ⟨ls0_4, xs0_5, As0_1, cs0_2, ms0_3, H, hqq2, ht, hm⟩ := hJ
  cases q2 with
  | zero => cases H
  | succ q2 =>
  rw [spec_l09Free.l0] at H
  refine wp_seq ?_
  refine wp_seq ?_
  refine wpr ?_
  refine wpl rfl rfl ht (ev_move ht rfl rfl) ?_
  intro a ht
  refine wpl rfl rfl ht (ev_move ht rfl rfl) ?_
  intro a ht
  refine wpl rfl rfl ht (ev_len_of ht rfl rfl und_22 (hm.fact (φ := IntsAt A c m list) 0 rfl)) ?_
  intro a ht
  refine wpl rfl rfl ht (ev_cmp ht rfl rfl rfl rfl) ?_
  intro a ht
  refine wpList_nil ?_
  refine then_normal ?_
  by_cases h3 : xs0_5 < (list.length : Int)
  · replace H := ite_yes h3 H
    refine wpc_yes ht rfl (decide_eq_true h3) ?_
    refine wp_skip ?_
    refine then_normal ?_
    refine wp_seq ?_
    refine wp_block ?_
    refine wp_seq ?_
    refine wpr ?_
    refine wpl rfl rfl ht (ev_move ht rfl rfl) ?_
    intro a ht
    refine wpl rfl rfl ht (ev_move ht rfl rfl) ?_
    intro a ht
    obtain ⟨t4, et4, H⟩ := bind_get H
    refine wpl rfl rfl ht (ev_index_ints ht rfl rfl rfl so_22 (hm.fact (φ := IntsAt A c m list) 0 rfl) et4) ?_
    intro a ht
    refine wpl rfl rfl ht (ev_load ht rfl rfl sc_2 (RowAt.cell (hm.fact (φ := IntsAt A c m list) 0 rfl) (ints_get et4) rfl)) ?_
    intro a ht
    refine wpl rfl rfl ht (ev_cmp ht rfl rfl rfl rfl) ?_
    intro a ht
    refine wpList_nil ?_
    refine then_normal ?_
    by_cases h5 : t4 < 0
    · replace H := ite_yes h5 H
      refine wpc_yes ht rfl (decide_eq_true h5) ?_
      refine wpr ?_
      refine wpl rfl rfl ht (ev_move ht rfl rfl) ?_
      intro a ht
      refine wpl rfl rfl ht (ev_move ht rfl rfl) ?_
      intro a ht
      refine wpl_build_ints (l := [xs0_5]) rfl rfl ht hm rfl und_22 zo_2 sz1_2 (by decide) rfl rfl rfl ?_
      intro A6 a ht w hm
      obtain ⟨l10, el10, H⟩ := bind_get H
      refine wpl_push (r := l10) 1 0 rfl rfl ht hm rfl ap_22 rfl rfl rfl rfl el10 ?_
      intro A7 c8 m9 a ht w hm
      refine wpl rfl rfl ht (ev_assign ht rfl rfl) ?_
      intro a ht
      refine wpList_nil ?_
      refine blk_normal ?_
      refine then_normal ?_
      refine wpr ?_
      refine wpl rfl rfl ht (ev_move ht rfl rfl) ?_
      intro a ht
      refine wpl rfl rfl ht (ev_arith ht rfl rfl rfl rfl) ?_
      intro a ht
      refine wpl rfl rfl ht (ev_assign ht rfl rfl) ?_
      intro a ht
      refine wpList_nil ?_
      exact then_normal ⟨q2, by omega, l10, (w64 (xs0_5 + 1)), A7, c8, m9, H, by omega, ht.sub ⟨rfl, rfl, rfl, rfl, trivial⟩, (hm.pick [1] rfl (by decide)).pickφ [0] rfl⟩
    · replace H := ite_no h5 H
      refine wpc_no ht rfl (decide_eq_false h5) ?_
      refine wp_skip ?_
      refine blk_normal ?_
      refine then_normal ?_
      refine wpr ?_
      refine wpl rfl rfl ht (ev_move ht rfl rfl) ?_
      intro a ht
      refine wpl rfl rfl ht (ev_arith ht rfl rfl rfl rfl) ?_
      intro a ht
      refine wpl rfl rfl ht (ev_assign ht rfl rfl) ?_
      intro a ht
      refine wpList_nil ?_
      exact then_normal ⟨q2, by omega, ls0_4, (w64 (xs0_5 + 1)), As0_1, cs0_2, ms0_3, H, by omega, ht.sub ⟨rfl, rfl, rfl, rfl, trivial⟩, (hm.pick [0] rfl (by decide)).pickφ [0] rfl⟩
  · replace H := ite_no h3 H
    refine wpc_no ht rfl (decide_eq_false h3) ?_
    refine wp_exit ?_
    refine then_exit ?_
    refine then_exit ?_
    refine blk_hit ?_
    refine then_normal ?_
    refine wp_seq ?_
    refine wpr ?_
    refine wpl rfl rfl ht (ev_move ht rfl rfl) ?_
    intro a ht
    refine wpl rfl rfl ht (ev_assign ht rfl rfl) ?_
    intro a ht
    refine wpList_nil ?_
    refine then_normal ?_
    refine wp_ret ?_
    have hres := ht.res (P := Try.prog) (w := w) (rs := [.tmp 2]) (vs := [.slice As0_1 ms0_3 cs0_2]) (.tmp rfl .nil)
    obtain rfl := Option.some.inj H
    exact leave ht rfl hres ⟨As0_1, cs0_2, ms0_3, rfl, ((hm.pick [0] rfl (by decide)).pickφ [] rfl).post fun _ h => h⟩

/-! ### spec_l09Result: function 43 (loop.example/g01362/spec.l09Result) -/
def spec_l09Result.f (k : Nat) (n_ : Int) (list : List Int) : Option (Int) := (spec_l09Mover.f k list).bind fun t1 => (spec_l09Common.f k n_ list (w64 (1 - t1))).bind fun t2 => if t2.2 > 0 then (some t1) else ((spec_l09Free.f k list).bind fun t4 => if (t4.length : Int) = 0 then (some 2) else (some (-1)))
set_option maxRecDepth 100000 in
set_option maxHeartbeats 1000000 in
theorem spec_l09Result.calls (k : Nat) (X : List Nat) (w0 : World) (A : Option Addr) (c : Nat) (m : Nat) (n_ : Int) (list : List Int) (r : Int)
    (hp : Pre X w0 [] [IntsAt A c m list]) (H : spec_l09Result.f k n_ list = some r) :
    Calls Try.prog 43 [.int .i64 n_, .slice A m c].toArray w0 (Ret fun v w => v = .int .i64 r ∧ Post X (fps []) w0 [] [] w) := by
  unfold spec_l09Result.f at H
  refine enterM (n := 25) hp Try.func43 rfl rfl (Nat.le_of_ble_eq_true rfl) fun a w ht hm => ?_
  refine wp_seq ?_
  refine wpr ?_
  refine wpl rfl rfl ht (ev_assign ht rfl rfl) ?_
  intro a ht
  refine wpList_nil ?_
  refine then_normal ?_
  refine wp_seq ?_
  refine wpr ?_
  refine wpl rfl rfl ht (ev_move ht rfl rfl) ?_
  intro a ht
  obtain ⟨t1, et1, H⟩ := bind_get H
  have hcall := spec_l09Mover.calls k _ _ A c m list _ ((fun (hq : Ms _ _ _ ([] ++ []) _ _) => hq.lend (φp := [IntsAt A c m list]) (allRO_cons (hq.lendFact 0 rfl) (allRO_nil))) (hm.pick (own' := [] ++ []) [] rfl (by decide))) et1
  refine wpl_call _ rfl rfl ht rfl rfl rfl rfl can_51 hcall ?_
  clear hcall
  rintro _ w ⟨rfl, hpost⟩ a ht
  replace hm := (hm.pick (own' := [] ++ []) [] rfl (by decide)).backL hpost
  clear hpost
  refine wpl rfl rfl ht (ev_assign ht rfl rfl) ?_
  intro a ht
  refine wpList_nil ?_
  refine then_normal ?_
  refine wp_seq ?_
  refine wp_seq ?_
  refine wpr ?_
  refine wpl rfl rfl ht (ev_move ht rfl rfl) ?_
  intro a ht
  refine wpl rfl rfl ht (ev_move ht rfl rfl) ?_
  intro a ht
  refine wpl rfl rfl ht (ev_move ht rfl rfl) ?_
  intro a ht
  refine wpl rfl rfl ht (ev_arith ht rfl rfl rfl rfl) ?_
  intro a ht
  obtain ⟨t2, et2, H⟩ := bind_get H
  have hcall := spec_l09Common.calls k _ _ A c m n_ list (w64 (1 - t1)) _ ((fun (hq : Ms _ _ _ ([] ++ []) _ _) => hq.lend (φp := [IntsAt A c m list]) (allRO_cons (hq.lendFact 0 rfl) (allRO_nil))) (hm.pick (own' := [] ++ []) [] rfl (by decide))) et2
  refine wpl_call _ rfl rfl ht rfl rfl rfl rfl can_60 hcall ?_
  clear hcall
  rintro _ w ⟨rfl, hpost⟩ a ht
  replace hm := (hm.pick (own' := [] ++ []) [] rfl (by decide)).backL hpost
  clear hpost
  refine wpl rfl rfl ht (ev_move ht rfl rfl) ?_
  intro a ht
  refine wpl rfl rfl ht (ev_extract ht rfl rfl rfl) ?_
  intro a ht
  refine wpl rfl rfl ht (ev_extract ht rfl rfl rfl) ?_
  intro a ht
  refine wpl rfl rfl ht (ev_assign ht rfl rfl) ?_
  intro a ht
  refine wpl rfl rfl ht (ev_assign ht rfl rfl) ?_
  intro a ht
  refine wpList_nil ?_
  refine then_normal ?_
  refine wp_seq ?_
  refine wpr ?_
  refine wpl rfl rfl ht (ev_move ht rfl rfl) ?_
  intro a ht
  refine wpl rfl rfl ht (ev_cmp ht rfl rfl rfl rfl) ?_
  intro a ht
  refine wpList_nil ?_
  refine then_normal ?_
  by_cases h3 : t2.2 > 0
  · replace H := ite_yes h3 H
    refine wpc_yes ht rfl (decide_eq_true h3) ?_
    refine wp_seq ?_
    refine wpr ?_
    refine wpl rfl rfl ht (ev_move ht rfl rfl) ?_
    intro a ht
    refine wpl rfl rfl ht (ev_assign ht rfl rfl) ?_
    intro a ht
    refine wpList_nil ?_
    refine then_normal ?_
    refine wp_ret ?_
    refine then_ret ?_
    have hres := ht.res (P := Try.prog) (w := w) (rs := [.tmp 4]) (vs := [.int .i64 t1]) (.tmp rfl .nil)
    obtain rfl := Option.some.inj H
    exact leave ht rfl hres ⟨rfl, ((hm.pick [] rfl (by decide)).pickφ [] rfl).post fun _ h => h⟩
  · replace H := ite_no h3 H
    refine wpc_no ht rfl (decide_eq_false h3) ?_
    refine wp_skip ?_
    refine then_normal ?_
    refine wp_seq ?_
    refine wp_seq ?_
    refine wpr ?_
    refine wpl rfl rfl ht (ev_move ht rfl rfl) ?_
    intro a ht
    obtain ⟨t4, et4, H⟩ := bind_get H
    have hcall := spec_l09Free.calls k _ _ A c m list _ ((fun (hq : Ms _ _ _ ([] ++ []) _ _) => hq.lend (φp := [IntsAt A c m list]) (allRO_cons (hq.lendFact 0 rfl) (allRO_nil))) (hm.pick (own' := [] ++ []) [] rfl (by decide))) et4
    refine wpl_call _ rfl rfl ht rfl rfl rfl rfl can_75 hcall ?_
    clear hcall
    rintro _ w ⟨A5, c6, m7, rfl, hpost⟩ a ht
    replace hm := (hm.pick (own' := [] ++ []) [] rfl (by decide)).backL hpost
    clear hpost
    refine wpl rfl rfl ht (ev_len_of ht rfl rfl und_22 (hm.vec_row 0 rfl)) ?_
    intro a ht
    refine wpl rfl rfl ht (ev_cmp ht rfl rfl rfl rfl) ?_
    intro a ht
    refine wpList_nil ?_
    refine then_normal ?_
    by_cases h8 : (t4.length : Int) = 0
    · replace H := ite_yes h8 H
      refine wpc_yes ht rfl (decide_eq_true h8) ?_
      refine wp_seq ?_
      refine wpr ?_
      refine wpl rfl rfl ht (ev_assign ht rfl rfl) ?_
      intro a ht
      refine wpList_nil ?_
      refine then_normal ?_
      refine wp_ret ?_
      refine then_ret ?_
      have hres := ht.res (P := Try.prog) (w := w) (rs := [.tmp 4]) (vs := [.int .i64 2]) (.tmp rfl .nil)
      obtain rfl := Option.some.inj H
      exact leave ht rfl hres ⟨rfl, ((hm.pick [] rfl (by decide)).pickφ [] rfl).post fun _ h => h⟩
    · replace H := ite_no h8 H
      refine wpc_no ht rfl (decide_eq_false h8) ?_
      refine wp_skip ?_
      refine then_normal ?_
      refine wp_seq ?_
      refine wpr ?_
      refine wpl rfl rfl ht (ev_assign ht rfl rfl) ?_
      intro a ht
      refine wpList_nil ?_
      refine then_normal ?_
      refine wp_ret ?_
      have hres := ht.res (P := Try.prog) (w := w) (rs := [.tmp 4]) (vs := [.int .i64 (-1)]) (.tmp rfl .nil)
      obtain rfl := Option.some.inj H
      exact leave ht rfl hres ⟨rfl, ((hm.pick [] rfl (by decide)).pickφ [] rfl).post fun _ h => h⟩

/-! ### spec_l09Number: function 83 (loop.example/g01362/spec.l09Number) -/
def spec_l09Number.l0 : Nat → List Int → Int → Int → Option (Int)
  | 0, _, _, _ => none
  | q1 + 1, list, xs0_1, xs0_2 => if xs0_2 < (list.length : Int) then ((getI list xs0_2).bind fun t3 => spec_l09Number.l0 q1 list (w64 ((w64 ((w64 (xs0_1 * 3)) + t3)) + 1)) (w64 (xs0_2 + 1))) else (some xs0_1)
def spec_l09Number.f (k : Nat) (list : List Int) : Option (Int) := spec_l09Number.l0 k list 0 0
set_option maxRecDepth 100000 in
set_option maxHeartbeats 1000000 in
theorem spec_l09Number.calls (k : Nat) (X : List Nat) (w0 : World) (A : Option Addr) (c : Nat) (m : Nat) (list : List Int) (r : Int)
    (hp : Pre X w0 [] [IntsAt A c m list]) (H : spec_l09Number.f k list = some r) :
    Calls Try.prog 83 [.slice A m c].toArray w0 (Ret fun v w => v = .int .i64 r ∧ Post X (fps []) w0 [] [] w) := by
  unfold spec_l09Number.f at H
  refine enterM (n := 20) hp Try.func83 rfl rfl (Nat.le_of_ble_eq_true rfl) fun a w ht hm => ?_
  refine wp_seq ?_
  refine wpr ?_
  refine wpl rfl rfl ht (ev_assign ht rfl rfl) ?_
  intro a ht
  refine wpList_nil ?_
  refine then_normal ?_
  refine wp_seq ?_
  refine wpr ?_
  refine wpl rfl rfl ht (ev_assign ht rfl rfl) ?_
  intro a ht
  refine wpList_nil ?_
  refine then_normal ?_
  refine wp_seq ?_
  refine wp_seq ?_
  refine wpr ?_
  refine wpl rfl rfl ht (ev_assign ht rfl rfl) ?_
  intro a ht
  refine wpList_nil ?_
  refine then_normal ?_
  refine wp_block ?_
  refine wpLoop (fun q a w => ∃ (xs0_1 : Int) (xs0_2 : Int), spec_l09Number.l0 q list xs0_1 xs0_2 = some r ∧ q ≤ k ∧ Tm 20 [(0, .slice A m c), (2, .int .i64 0), (3, .int .i64 xs0_1), (4, .int .i64 xs0_2)] a ∧ Ms X (fps []) w0 [] [IntsAt A c m list] w) (k0 := k) ⟨0, 0, H, Nat.le_refl _, ht.sub ⟨rfl, rfl, rfl, rfl, trivial⟩, (hm.pick [] rfl (by decide)).pickφ [0] rfl⟩ ?_
  clear H ht hm
  intro q1 a w hJ
  obtain ⟨xs0_1, xs0_2, H, hqq1, ht, hm⟩ := hJ
  cases q1 with
  | zero => cases H
  | succ q1 =>
  rw [spec_l09Number.l0] at H
  refine wp_seq ?_
  refine wp_seq ?_
  refine wpr ?_
  refine wpl rfl rfl ht (ev_move ht rfl rfl) ?_
  intro a ht
  refine wpl rfl rfl ht (ev_move ht rfl rfl) ?_
  intro a ht
  refine wpl rfl rfl ht (ev_len_of ht rfl rfl und_22 (hm.fact (φ := IntsAt A c m list) 0 rfl)) ?_
  intro a ht
  refine wpl rfl rfl ht (ev_cmp ht rfl rfl rfl rfl) ?_
  intro a ht
  refine wpList_nil ?_
  refine then_normal ?_
  by_cases h2 : xs0_2 < (list.length : Int)
  · replace H := ite_yes h2 H
    refine wpc_yes ht rfl (decide_eq_true h2) ?_
    refine wp_skip ?_
    refine then_normal ?_
    refine wp_seq ?_
    refine wp_block ?_
    refine wpr ?_
    refine wpl rfl rfl ht (ev_move ht rfl rfl) ?_
    intro a ht
    refine wpl rfl rfl ht (ev_arith ht rfl rfl rfl rfl) ?_
    intro a ht
    refine wpl rfl rfl ht (ev_move ht rfl rfl) ?_
    intro a ht
    refine wpl rfl rfl ht (ev_move ht rfl rfl) ?_
    intro a ht
    obtain ⟨t3, et3, H⟩ := bind_get H
    refine wpl rfl rfl ht (ev_index_ints ht rfl rfl rfl so_22 (hm.fact (φ := IntsAt A c m list) 0 rfl) et3) ?_
    intro a ht
    refine wpl rfl rfl ht (ev_load ht rfl rfl sc_2 (RowAt.cell (hm.fact (φ := IntsAt A c m list) 0 rfl) (ints_get et3) rfl)) ?_
    intro a ht
    refine wpl rfl rfl ht (ev_arith ht rfl rfl rfl rfl) ?_
    intro a ht
    refine wpl rfl rfl ht (ev_arith ht rfl rfl rfl rfl) ?_
    intro a ht
    refine wpl rfl rfl ht (ev_assign ht rfl rfl) ?_
    intro a ht
    refine wpList_nil ?_
    refine blk_normal ?_
    refine then_normal ?_
    refine wpr ?_
    refine wpl rfl rfl ht (ev_move ht rfl rfl) ?_
    intro a ht
    refine wpl rfl rfl ht (ev_arith ht rfl rfl rfl rfl) ?_
    intro a ht
    refine wpl rfl rfl ht (ev_assign ht rfl rfl) ?_
    intro a ht
    refine wpList_nil ?_
    exact then_normal ⟨q1, by omega, (w64 ((w64 ((w64 (xs0_1 * 3)) + t3)) + 1)), (w64 (xs0_2 + 1)), H, by omega, ht.sub ⟨rfl, rfl, rfl, rfl, trivial⟩, (hm.pick [] rfl (by decide)).pickφ [0] rfl⟩
  · replace H := ite_no h2 H
    refine wpc_no ht rfl (decide_eq_false h2) ?_
    refine wp_exit ?_
    refine then_exit ?_
    refine then_exit ?_
    refine blk_hit ?_
    refine then_normal ?_
    refine wp_seq ?_
    refine wpr ?_
    refine wpl rfl rfl ht (ev_move ht rfl rfl) ?_
    intro a ht
    refine wpl rfl rfl ht (ev_assign ht rfl rfl) ?_
    intro a ht
    refine wpList_nil ?_
    refine then_normal ?_
    refine wp_ret ?_
    have hres := ht.res (P := Try.prog) (w := w) (rs := [.tmp 2]) (vs := [.int .i64 xs0_1]) (.tmp rfl .nil)
    obtain rfl := Option.some.inj H
    exact leave ht rfl hres ⟨rfl, ((hm.pick [] rfl (by decide)).pickφ [] rfl).post fun _ h => h⟩

/-! ### spec_l01Own: function 66 (loop.example/g01362/spec.l01Own) -/
def spec_l01Own.f (list : List Int) : Option (List Int) := (concat ([] : List Int) list).bind fun l5 => some l5
set_option maxRecDepth 100000 in
set_option maxHeartbeats 1000000 in
theorem spec_l01Own.calls (X : List Nat) (w0 : World) (A : Option Addr) (c : Nat) (m : Nat) (list : List Int) (r : List Int)
    (hp : Pre X w0 [] [IntsAt A c m list]) (H : spec_l01Own.f list = some r) :
    Calls Try.prog 66 [.slice A m c].toArray w0 (Ret fun v w => ∃ (A_0 : Option Addr) (c_0 : Nat) (n_0 : Nat), v = .slice A_0 n_0 c_0 ∧ Post X (fps []) w0 [.vec A_0 c_0 2 1 n_0 (ints r)] [] w) := by
  unfold spec_l01Own.f at H
  refine enterM (n := 6) hp Try.func66 rfl rfl (Nat.le_of_ble_eq_true rfl) fun a w ht hm => ?_
  refine wp_seq ?_
  refine wpr ?_
  refine wpl rfl rfl ht (ev_assign ht rfl rfl) ?_
  intro a ht
  refine wpList_nil ?_
  refine then_normal ?_
  refine wp_seq ?_
  refine wpr ?_
  refine wpl_build_ints (l := ([] : List Int)) rfl rfl ht hm rfl und_22 zo_2 sz1_2 (by decide) rfl rfl rfl ?_
  intro A1 a ht w hm
  refine wpl rfl rfl ht (ev_move ht rfl rfl) ?_
  intro a ht
  obtain ⟨l5, el5, H⟩ := bind_get H
  refine wpl_concat (r := l5) 0 rfl rfl ht hm rfl ap_22 rfl rfl rfl (hm.fact (φ := IntsAt A c m list) 0 rfl) el5 ?_
  intro A2 c3 m4 a ht w hm
  refine wpl rfl rfl ht (ev_assign ht rfl rfl) ?_
  intro a ht
  refine wpList_nil ?_
  refine then_normal ?_
  refine wp_ret ?_
  have hres := ht.res (P := Try.prog) (w := w) (rs := [.tmp 2]) (vs := [.slice A2 m4 c3]) (.tmp rfl .nil)
  obtain rfl := Option.some.inj H
  exact leave ht rfl hres ⟨A2, c3, m4, rfl, ((hm.pick [0] rfl (by decide)).pickφ [] rfl).post fun _ h => h⟩

/-! ### spec_l09Move: function 45 (loop.example/g01362/spec.l09Move) -/
def spec_l09Move.f (k : Nat) (list : List Int) (e : Int) : Option (List Int) := (spec_l01Own.f list).bind fun t1 => (spec_l09Mover.f k list).bind fun t5 => (getI t1 e).bind fun t6 => some (t1.set e.toNat t5)
set_option maxRecDepth 100000 in
set_option maxHeartbeats 1000000 in
theorem spec_l09Move.calls (k : Nat) (X : List Nat) (w0 : World) (A : Option Addr) (c : Nat) (m : Nat) (list : List Int) (e : Int) (r : List Int)
    (hp : Pre X w0 [] [IntsAt A c m list]) (H : spec_l09Move.f k list e = some r) :
    Calls Try.prog 45 [.slice A m c, .int .i64 e].toArray w0 (Ret fun v w => ∃ (A_0 : Option Addr) (c_0 : Nat) (n_0 : Nat), v = .slice A_0 n_0 c_0 ∧ Post X (fps []) w0 [.vec A_0 c_0 2 1 n_0 (ints r)] [] w) := by
  unfold spec_l09Move.f at H
  refine enterM (n := 14) hp Try.func45 rfl rfl (Nat.le_of_ble_eq_true rfl) fun a w ht hm => ?_
  refine wp_seq ?_
  refine wpr ?_
  refine wpl rfl rfl ht (ev_assign ht rfl rfl) ?_
  intro a ht
  refine wpList_nil ?_
  refine then_normal ?_
  refine wp_seq ?_
  refine wpr ?_
  refine wpl rfl rfl ht (ev_move ht rfl rfl) ?_
  intro a ht
  obtain ⟨t1, et1, H⟩ := bind_get H
  have hcall := spec_l01Own.calls _ _ A c m list _ ((fun (hq : Ms _ _ _ ([] ++ []) _ _) => hq.lend (φp := [IntsAt A c m list]) (allRO_cons (hq.lendFact 0 rfl) (allRO_nil))) (hm.pick (own' := [] ++ []) [] rfl (by decide))) et1
  refine wpl_call _ rfl rfl ht rfl rfl rfl rfl can_66 hcall ?_
  clear hcall
  rintro _ w ⟨A2, c3, m4, rfl, hpost⟩ a ht
  replace hm := (hm.pick (own' := [] ++ []) [] rfl (by decide)).backL hpost
  clear hpost
  refine wpl rfl rfl ht (ev_assign ht rfl rfl) ?_
  intro a ht
  refine wpList_nil ?_
  refine then_normal ?_
  refine wp_seq ?_
  refine wpr ?_
  refine wpl rfl rfl ht (ev_move ht rfl rfl) ?_
  intro a ht
  refine wpl rfl rfl ht (ev_move ht rfl rfl) ?_
  intro a ht
  refine wpl rfl rfl ht (ev_move ht rfl rfl) ?_
  intro a ht
  obtain ⟨t5, et5, H⟩ := bind_get H
  have hcall := spec_l09Mover.calls k _ _ A c m list _ ((fun (hq : Ms _ _ _ ([] ++ [.vec A2 c3 2 1 m4 (ints t1)]) _ _) => hq.lend (φp := [IntsAt A c m list]) (allRO_cons (hq.lendFact 0 rfl) (allRO_nil))) (hm.pick (own' := [] ++ [.vec A2 c3 2 1 m4 (ints t1)]) [0] rfl (by decide))) et5
  refine wpl_call _ rfl rfl ht rfl rfl rfl rfl can_51 hcall ?_
  clear hcall
  rintro _ w ⟨rfl, hpost⟩ a ht
  replace hm := (hm.pick (own' := [] ++ [.vec A2 c3 2 1 m4 (ints t1)]) [0] rfl (by decide)).backL hpost
  clear hpost
  obtain ⟨t6, et6, H⟩ := bind_get H
  refine wpl rfl rfl ht (ev_index_ints ht rfl rfl rfl so_22 (hm.vec_row 0 rfl) et6) ?_
  intro a ht
  refine wpl_store_int 0 rfl rfl ht hm rfl rfl rfl sz1_2 rfl et6 ?_
  intro a ht w hm
  refine wpList_nil ?_
  refine then_normal ?_
  refine wp_seq ?_
  refine wpr ?_
  refine wpl rfl rfl ht (ev_move ht rfl rfl) ?_
  intro a ht
  refine wpl rfl rfl ht (ev_assign ht rfl rfl) ?_
  intro a ht
  refine wpList_nil ?_
  refine then_normal ?_
  refine wp_ret ?_
  have hres := ht.res (P := Try.prog) (w := w) (rs := [.tmp 4]) (vs := [.slice A2 m4 c3]) (.tmp rfl .nil)
  obtain rfl := Option.some.inj H
  exact leave ht rfl hres ⟨A2, c3, m4, rfl, ((hm.pick [0] rfl (by decide)).pickφ [] rfl).post fun _ h => h⟩

end Go.Proofs.Ytfbdcidedjocdaa.G
