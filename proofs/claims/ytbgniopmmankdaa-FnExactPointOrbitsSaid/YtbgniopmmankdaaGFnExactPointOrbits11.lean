/- What each Go function computes, as a Lean function, and the proof that it does: written by a program of this session (wip/gen), part 11. -/
import Derived.Test.YtbgniopmmankdaaGFnExactPointOrbits10
namespace Go.Proofs.Ytbgniopmmankdaa.G
open Go Go.RowKit Go.Proofs.Ytbgniopmmankdaa.K
set_option linter.unusedVariables false
set_option linter.unusedSimpArgs false

/-! ### laws_markInt64SS: function 18 (loop.example/g01362/laws.markInt64SS) -/
def laws_markInt64SS.l0 : Nat → List (List Int) → Int → Int → Option (Int × List (List Int))
  | 0, _, _, _ => none
  | q1 + 1, ls0_1, xs0_2, xs0_3 => if xs0_3 < (ls0_1.length : Int) then ((getR ls0_1 xs0_3).bind fun l3 => (laws_markInt64S.f q1 l3 xs0_2).bind fun t8 => laws_markInt64SS.l0 q1 (ls0_1.set xs0_3.toNat t8.2) t8.1 (w64 (xs0_3 + 1))) else (some (xs0_2, ls0_1))
def laws_markInt64SS.f (k : Nat) (a_ : List (List Int)) (k_ : Int) : Option (Int × List (List Int)) := laws_markInt64SS.l0 k a_ k_ 0
set_option maxRecDepth 100000 in
set_option maxHeartbeats 20000000 in
theorem laws_markInt64SS.calls (k : Nat) (X : List Nat) (w0 : World) (A : Option Addr) (c : Nat) (m : Nat) (vs : List Value) (a_ : List (List Int)) (k_ : Int) (r : Int × List (List Int))
    (hp : Pre X w0 [.vecs A c 43 2 m vs a_] []) (H : laws_markInt64SS.f k a_ k_ = some r) :
    Calls Try.prog 18 [.slice A m c, .int .i64 k_].toArray w0 (Ret fun v w => v = .int .i64 r.1 ∧ Post X (fps [.vecs A c 43 2 m vs a_]) w0 [.vecs A c 43 2 m vs r.2] [] w) := by
  unfold laws_markInt64SS.f at H
  refine enterM (n := 19) hp Try.func18 rfl rfl (Nat.le_of_ble_eq_true rfl) fun a w ht hm => ?_
  refine wp_seq ?_
  refine wpr ?_
  refine wpl rfl rfl ht (ev_assign ht rfl rfl) ?_
  intro a ht
  refine wpList_nil ?_
  refine then_normal ?_
  refine wp_seq ?_
  refine wp_seq ?_
  refine wpr ?_
  refine wpl rfl rfl ht (ev_assign ht rfl rfl) ?_
  intro a ht
  refine wpList_nil ?_
  refine then_normal ?_
  refine wp_block ?_
  refine wpLoop (fun q a w => ∃ (ls0_1 : List (List Int)) (xs0_2 : Int) (xs0_3 : Int), laws_markInt64SS.l0 q ls0_1 xs0_2 xs0_3 = some r ∧ q ≤ k ∧ Tm 19 [(0, .slice A m c), (4, .int .i64 0), (1, .int .i64 xs0_2), (5, .int .i64 xs0_3)] a ∧ Ms X (fps [.vecs A c 43 2 m vs a_]) w0 [.vecs A c 43 2 m vs ls0_1] [] w) (k0 := k) ⟨a_, k_, 0, H, Nat.le_refl _, ht.sub ⟨rfl, rfl, rfl, rfl, trivial⟩, (hm.pick [0] rfl (by decide)).pickφ [] rfl⟩ ?_
  clear H ht hm
  intro q1 a w hJ
  obtain ⟨ls0_1, xs0_2, xs0_3, H, hqq1, ht, hm⟩ := hJ
  cases q1 with
  | zero => cases H
  | succ q1 =>
  rw [laws_markInt64SS.l0] at H
  refine wp_seq ?_
  refine wp_seq ?_
  refine wpr ?_
  refine wpl rfl rfl ht (ev_move ht rfl rfl) ?_
  intro a ht
  refine wpl rfl rfl ht (ev_move ht rfl rfl) ?_
  intro a ht
  refine wpl rfl rfl ht (ev_len_rows ht rfl rfl und_35 (hm.vecsRows 0 rfl)) ?_
  intro a ht
  refine wpl rfl rfl ht (ev_cmp ht rfl rfl rfl rfl) ?_
  intro a ht
  refine wpList_nil ?_
  refine then_normal ?_
  by_cases h2 : xs0_3 < (ls0_1.length : Int)
  · replace H := ite_yes h2 H
    refine wpc_yes ht rfl (decide_eq_true h2) ?_
    refine wp_skip ?_
    refine then_normal ?_
    refine wp_seq ?_
    refine wp_block ?_
    refine wpr ?_
    refine wpl rfl rfl ht (ev_move ht rfl rfl) ?_
    intro a ht
    refine wpl rfl rfl ht (ev_move ht rfl rfl) ?_
    intro a ht
    obtain ⟨l3, el3, H⟩ := bind_get H
    refine wpl rfl rfl ht (ev_index_rows ht rfl rfl rfl so_35 (hm.vecsRows 0 rfl) el3) ?_
    intro a ht
    obtain ⟨A4, c5, m6, hv7, hI⟩ := rowsAt_get (hm.vecsRows 0 rfl) el3
    refine wpl rfl rfl ht (ev_load ht rfl rfl sc_43 (RowsAt.cell (hm.vecsRows 0 rfl) hv7)) ?_
    intro a ht
    clear hI
    refine wpl rfl rfl ht (ev_move ht rfl rfl) ?_
    intro a ht
    obtain ⟨t8, et8, H⟩ := bind_get H
    have hcall := laws_markInt64S.calls q1 _ _ A4 c5 m6 l3 xs0_2 _ (hm.preRow 0 rfl (getR_get el3) hv7) et8
    refine wpl_call _ rfl rfl ht rfl rfl rfl rfl can_41 hcall ?_
    clear hcall
    rintro _ w ⟨rfl, hpost⟩ a ht
    replace hm := hm.backRow 0 rfl (getR_get el3) hv7 hpost
    clear hpost
    refine wpl rfl rfl ht (ev_assign ht rfl rfl) ?_
    intro a ht
    refine wpList_nil ?_
    refine blk_normal ?_
    refine then_normal ?_
    refine wpr ?_
    refine wpl rfl rfl ht (ev_move ht rfl rfl) ?_
    intro a ht
    refine wpl rfl rfl ht (ev_arith ht rfl rfl rfl rfl) ?_
    intro a ht
    refine wpl rfl rfl ht (ev_assign ht rfl rfl) ?_
    intro a ht
    refine wpList_nil ?_
    exact then_normal ⟨q1, by omega, (ls0_1.set xs0_3.toNat t8.2), t8.1, (w64 (xs0_3 + 1)), H, by omega, ht.sub ⟨rfl, rfl, rfl, rfl, trivial⟩, (hm.pick [0] rfl (by decide)).pickφ [] rfl⟩
  · replace H := ite_no h2 H
    refine wpc_no ht rfl (decide_eq_false h2) ?_
    refine wp_exit ?_
    refine then_exit ?_
    refine then_exit ?_
    refine blk_hit ?_
    refine then_normal ?_
    refine wp_seq ?_
    refine wpr ?_
    refine wpl rfl rfl ht (ev_move ht rfl rfl) ?_
    intro a ht
    refine wpl rfl rfl ht (ev_assign ht rfl rfl) ?_
    intro a ht
    refine wpList_nil ?_
    refine then_normal ?_
    refine wp_ret ?_
    have hres := ht.res (P := Try.prog) (w := w) (rs := [.tmp 4]) (vs := [.int .i64 xs0_2]) (.tmp rfl .nil)
    obtain rfl := Option.some.inj H
    exact leave ht rfl hres ⟨rfl, ((hm.pick [0] rfl (by decide)).pickφ [] rfl).post fun _ h => h⟩

/-! ### laws_heldInt64S: function 42 (loop.example/g01362/laws.heldInt64S) -/
def laws_heldInt64S.l0 : Nat → List Int → Int → Int → Option (Int)
  | 0, _, _, _ => none
  | q1 + 1, a_, xs0_1, xs0_2 => if xs0_2 < (a_.length : Int) then ((getI a_ xs0_2).bind fun t3 => if t3 ≠ xs0_1 then (some (-1)) else (laws_heldInt64S.l0 q1 a_ (w64 (xs0_1 + 1)) (w64 (xs0_2 + 1)))) else (some xs0_1)
def laws_heldInt64S.f (k : Nat) (a_ : List Int) (k_ : Int) : Option (Int) := laws_heldInt64S.l0 k a_ k_ 0
set_option maxRecDepth 100000 in
set_option maxHeartbeats 20000000 in
theorem laws_heldInt64S.calls (k : Nat) (X : List Nat) (w0 : World) (A : Option Addr) (c : Nat) (m : Nat) (a_ : List Int) (k_ : Int) (r : Int)
    (hp : Pre X w0 [] [IntsAt A c m a_]) (H : laws_heldInt64S.f k a_ k_ = some r) :
    Calls Try.prog 42 [.slice A m c, .int .i64 k_].toArray w0 (Ret fun v w => v = .int .i64 r ∧ Post X (fps []) w0 [] [] w) := by
  unfold laws_heldInt64S.f at H
  refine enterM (n := 21) hp Try.func42 rfl rfl (Nat.le_of_ble_eq_true rfl) fun a w ht hm => ?_
  refine wp_seq ?_
  refine wpr ?_
  refine wpl rfl rfl ht (ev_assign ht rfl rfl) ?_
  intro a ht
  refine wpList_nil ?_
  refine then_normal ?_
  refine wp_seq ?_
  refine wp_seq ?_
  refine wpr ?_
  refine wpl rfl rfl ht (ev_assign ht rfl rfl) ?_
  intro a ht
  refine wpList_nil ?_
  refine then_normal ?_
  refine wp_block ?_
  refine wpLoop (fun q a w => ∃ (xs0_1 : Int) (xs0_2 : Int), laws_heldInt64S.l0 q a_ xs0_1 xs0_2 = some r ∧ q ≤ k ∧ Tm 21 [(0, .slice A m c), (4, .int .i64 0), (1, .int .i64 xs0_1), (5, .int .i64 xs0_2)] a ∧ Ms X (fps []) w0 [] [IntsAt A c m a_] w) (k0 := k) ⟨k_, 0, H, Nat.le_refl _, ht.sub ⟨rfl, rfl, rfl, rfl, trivial⟩, (hm.pick [] rfl (by decide)).pickφ [0] rfl⟩ ?_
  clear H ht hm
  intro q1 a w hJ
  obtain ⟨xs0_1, xs0_2, H, hqq1, ht, hm⟩ := hJ
  cases q1 with
  | zero => cases H
  | succ q1 =>
  rw [laws_heldInt64S.l0] at H
  refine wp_seq ?_
  refine wp_seq ?_
  refine wpr ?_
  refine wpl rfl rfl ht (ev_move ht rfl rfl) ?_
  intro a ht
  refine wpl rfl rfl ht (ev_move ht rfl rfl) ?_
  intro a ht
  refine wpl rfl rfl ht (ev_len_of ht rfl rfl und_43 (hm.fact (φ := IntsAt A c m a_) 0 rfl)) ?_
  intro a ht
  refine wpl rfl rfl ht (ev_cmp ht rfl rfl rfl rfl) ?_
  intro a ht
  refine wpList_nil ?_
  refine then_normal ?_
  by_cases h2 : xs0_2 < (a_.length : Int)
  · replace H := ite_yes h2 H
    refine wpc_yes ht rfl (decide_eq_true h2) ?_
    refine wp_skip ?_
    refine then_normal ?_
    refine wp_seq ?_
    refine wp_block ?_
    refine wp_seq ?_
    refine wp_seq ?_
    refine wpr ?_
    refine wpl rfl rfl ht (ev_move ht rfl rfl) ?_
    intro a ht
    refine wpl rfl rfl ht (ev_move ht rfl rfl) ?_
    intro a ht
    obtain ⟨t3, et3, H⟩ := bind_get H
    refine wpl rfl rfl ht (ev_index_ints ht rfl rfl rfl so_43 (hm.fact (φ := IntsAt A c m a_) 0 rfl) et3) ?_
    intro a ht
    refine wpl rfl rfl ht (ev_load ht rfl rfl sc_2 (RowAt.cell (hm.fact (φ := IntsAt A c m a_) 0 rfl) (ints_get et3) rfl)) ?_
    intro a ht
    refine wpl rfl rfl ht (ev_move ht rfl rfl) ?_
    intro a ht
    refine wpl rfl rfl ht (ev_cmp ht rfl rfl rfl rfl) ?_
    intro a ht
    refine wpList_nil ?_
    refine then_normal ?_
    by_cases h4 : t3 ≠ xs0_1
    · replace H := ite_yes h4 H
      refine wpc_yes ht rfl (decide_eq_true h4) ?_
      refine wp_seq ?_
      refine wpr ?_
      refine wpl rfl rfl ht (ev_assign ht rfl rfl) ?_
      intro a ht
      refine wpList_nil ?_
      refine then_normal ?_
      refine wp_ret ?_
      refine then_ret ?_
      refine blk_ret ?_
      refine then_ret ?_
      refine then_ret ?_
      refine blk_ret ?_
      refine then_ret ?_
      have hres := ht.res (P := Try.prog) (w := w) (rs := [.tmp 4]) (vs := [.int .i64 (-1)]) (.tmp rfl .nil)
      obtain rfl := Option.some.inj H
      exact leave ht rfl hres ⟨rfl, ((hm.pick [] rfl (by decide)).pickφ [] rfl).post fun _ h => h⟩
    · replace H := ite_no h4 H
      refine wpc_no ht rfl (decide_eq_false h4) ?_
      refine wp_skip ?_
      refine then_normal ?_
      refine wpr ?_
      refine wpl rfl rfl ht (ev_move ht rfl rfl) ?_
      intro a ht
      refine wpl rfl rfl ht (ev_arith ht rfl rfl rfl rfl) ?_
      intro a ht
      refine wpl rfl rfl ht (ev_assign ht rfl rfl) ?_
      intro a ht
      refine wpList_nil ?_
      refine blk_normal ?_
      refine then_normal ?_
      refine wpr ?_
      refine wpl rfl rfl ht (ev_move ht rfl rfl) ?_
      intro a ht
      refine wpl rfl rfl ht (ev_arith ht rfl rfl rfl rfl) ?_
      intro a ht
      refine wpl rfl rfl ht (ev_assign ht rfl rfl) ?_
      intro a ht
      refine wpList_nil ?_
      exact then_normal ⟨q1, by omega, (w64 (xs0_1 + 1)), (w64 (xs0_2 + 1)), H, by omega, ht.sub ⟨rfl, rfl, rfl, rfl, trivial⟩, (hm.pick [] rfl (by decide)).pickφ [0] rfl⟩
  · replace H := ite_no h2 H
    refine wpc_no ht rfl (decide_eq_false h2) ?_
    refine wp_exit ?_
    refine then_exit ?_
    refine then_exit ?_
    refine blk_hit ?_
    refine then_normal ?_
    refine wp_seq ?_
    refine wpr ?_
    refine wpl rfl rfl ht (ev_move ht rfl rfl) ?_
    intro a ht
    refine wpl rfl rfl ht (ev_assign ht rfl rfl) ?_
    intro a ht
    refine wpList_nil ?_
    refine then_normal ?_
    refine wp_ret ?_
    have hres := ht.res (P := Try.prog) (w := w) (rs := [.tmp 4]) (vs := [.int .i64 xs0_1]) (.tmp rfl .nil)
    obtain rfl := Option.some.inj H
    exact leave ht rfl hres ⟨rfl, ((hm.pick [] rfl (by decide)).pickφ [] rfl).post fun _ h => h⟩

/-! ### laws_heldInt64SS: function 19 (loop.example/g01362/laws.heldInt64SS) -/
def laws_heldInt64SS.l0 : Nat → List (List Int) → Int → Int → Option (Int)
  | 0, _, _, _ => none
  | q1 + 1, a_, xs0_1, xs0_2 => if xs0_2 < (a_.length : Int) then ((getR a_ xs0_2).bind fun l3 => (laws_heldInt64S.f q1 l3 xs0_1).bind fun t8 => if t8 < 0 then (some (-1)) else (laws_heldInt64SS.l0 q1 a_ t8 (w64 (xs0_2 + 1)))) else (some xs0_1)
def laws_heldInt64SS.f (k : Nat) (a_ : List (List Int)) (k_ : Int) : Option (Int) := laws_heldInt64SS.l0 k a_ k_ 0
set_option maxRecDepth 100000 in
set_option maxHeartbeats 20000000 in
theorem laws_heldInt64SS.calls (k : Nat) (X : List Nat) (w0 : World) (A : Option Addr) (c : Nat) (m : Nat) (vs : List Value) (a_ : List (List Int)) (k_ : Int) (r : Int)
    (hp : Pre X w0 [] [RowsAt A c m vs a_]) (H : laws_heldInt64SS.f k a_ k_ = some r) :
    Calls Try.prog 19 [.slice A m c, .int .i64 k_].toArray w0 (Ret fun v w => v = .int .i64 r ∧ Post X (fps []) w0 [] [] w) := by
  unfold laws_heldInt64SS.f at H
  refine enterM (n := 21) hp Try.func19 rfl rfl (Nat.le_of_ble_eq_true rfl) fun a w ht hm => ?_
  refine wp_seq ?_
  refine wpr ?_
  refine wpl rfl rfl ht (ev_assign ht rfl rfl) ?_
  intro a ht
  refine wpList_nil ?_
  refine then_normal ?_
  refine wp_seq ?_
  refine wp_seq ?_
  refine wpr ?_
  refine wpl rfl rfl ht (ev_assign ht rfl rfl) ?_
  intro a ht
  refine wpList_nil ?_
  refine then_normal ?_
  refine wp_block ?_
  refine wpLoop (fun q a w => ∃ (xs0_1 : Int) (xs0_2 : Int), laws_heldInt64SS.l0 q a_ xs0_1 xs0_2 = some r ∧ q ≤ k ∧ Tm 21 [(0, .slice A m c), (4, .int .i64 0), (1, .int .i64 xs0_1), (5, .int .i64 xs0_2)] a ∧ Ms X (fps []) w0 [] [RowsAt A c m vs a_] w) (k0 := k) ⟨k_, 0, H, Nat.le_refl _, ht.sub ⟨rfl, rfl, rfl, rfl, trivial⟩, (hm.pick [] rfl (by decide)).pickφ [0] rfl⟩ ?_
  clear H ht hm
  intro q1 a w hJ
  obtain ⟨xs0_1, xs0_2, H, hqq1, ht, hm⟩ := hJ
  cases q1 with
  | zero => cases H
  | succ q1 =>
  rw [laws_heldInt64SS.l0] at H
  refine wp_seq ?_
  refine wp_seq ?_
  refine wpr ?_
  refine wpl rfl rfl ht (ev_move ht rfl rfl) ?_
  intro a ht
  refine wpl rfl rfl ht (ev_move ht rfl rfl) ?_
  intro a ht
  refine wpl rfl rfl ht (ev_len_rows ht rfl rfl und_35 (hm.fact (φ := RowsAt A c m vs a_) 0 rfl)) ?_
  intro a ht
  refine wpl rfl rfl ht (ev_cmp ht rfl rfl rfl rfl) ?_
  intro a ht
  refine wpList_nil ?_
  refine then_normal ?_
  by_cases h2 : xs0_2 < (a_.length : Int)
  · replace H := ite_yes h2 H
    refine wpc_yes ht rfl (decide_eq_true h2) ?_
    refine wp_skip ?_
    refine then_normal ?_
    refine wp_seq ?_
    refine wp_block ?_
    refine wp_seq ?_
    refine wpr ?_
    refine wpl rfl rfl ht (ev_move ht rfl rfl) ?_
    intro a ht
    refine wpl rfl rfl ht (ev_move ht rfl rfl) ?_
    intro a ht
    obtain ⟨l3, el3, H⟩ := bind_get H
    refine wpl rfl rfl ht (ev_index_rows ht rfl rfl rfl so_35 (hm.fact (φ := RowsAt A c m vs a_) 0 rfl) el3) ?_
    intro a ht
    obtain ⟨A4, c5, m6, hv7, hI⟩ := rowsAt_get (hm.fact (φ := RowsAt A c m vs a_) 0 rfl) el3
    refine wpl rfl rfl ht (ev_load ht rfl rfl sc_43 (RowsAt.cell (hm.fact (φ := RowsAt A c m vs a_) 0 rfl) hv7)) ?_
    intro a ht
    replace hm : Ms _ _ _ _ (IntsAt A4 c5 m6 l3 :: _) w := hm.addφ ((hm.ro 0 rfl).mono fun w h => rowsAt_at h hv7 el3)
    clear hI
    refine wpl rfl rfl ht (ev_move ht rfl rfl) ?_
    intro a ht
    obtain ⟨t8, et8, H⟩ := bind_get H
    have hcall := laws_heldInt64S.calls q1 _ _ A4 c5 m6 l3 xs0_1 _ ((fun (hq : Ms _ _ _ ([] ++ []) _ _) => hq.lend (φp := [IntsAt A4 c5 m6 l3]) (allRO_cons (hq.lendFact 0 rfl) (allRO_nil))) (hm.pick (own' := [] ++ []) [] rfl (by decide))) et8
    refine wpl_call _ rfl rfl ht rfl rfl rfl rfl can_42 hcall ?_
    clear hcall
    rintro _ w ⟨rfl, hpost⟩ a ht
    replace hm := (hm.pick (own' := [] ++ []) [] rfl (by decide)).backL hpost
    clear hpost
    refine wpl rfl rfl ht (ev_assign ht rfl rfl) ?_
    intro a ht
    refine wpList_nil ?_
    refine then_normal ?_
    refine wp_seq ?_
    refine wpr ?_
    refine wpl rfl rfl ht (ev_move ht rfl rfl) ?_
    intro a ht
    refine wpl rfl rfl ht (ev_cmp ht rfl rfl rfl rfl) ?_
    intro a ht
    refine wpList_nil ?_
    refine then_normal ?_
    by_cases h9 : t8 < 0
    · replace H := ite_yes h9 H
      refine wpc_yes ht rfl (decide_eq_true h9) ?_
      refine wp_seq ?_
      refine wpr ?_
      refine wpl rfl rfl ht (ev_assign ht rfl rfl) ?_
      intro a ht
      refine wpList_nil ?_
      refine then_normal ?_
      refine wp_ret ?_
      refine blk_ret ?_
      refine then_ret ?_
      refine then_ret ?_
      refine blk_ret ?_
      refine then_ret ?_
      have hres := ht.res (P := Try.prog) (w := w) (rs := [.tmp 4]) (vs := [.int .i64 (-1)]) (.tmp rfl .nil)
      obtain rfl := Option.some.inj H
      exact leave ht rfl hres ⟨rfl, ((hm.pick [] rfl (by decide)).pickφ [] rfl).post fun _ h => h⟩
    · replace H := ite_no h9 H
      refine wpc_no ht rfl (decide_eq_false h9) ?_
      refine wp_skip ?_
      refine blk_normal ?_
      refine then_normal ?_
      refine wpr ?_
      refine wpl rfl rfl ht (ev_move ht rfl rfl) ?_
      intro a ht
      refine wpl rfl rfl ht (ev_arith ht rfl rfl rfl rfl) ?_
      intro a ht
      refine wpl rfl rfl ht (ev_assign ht rfl rfl) ?_
      intro a ht
      refine wpList_nil ?_
      exact then_normal ⟨q1, by omega, t8, (w64 (xs0_2 + 1)), H, by omega, ht.sub ⟨rfl, rfl, rfl, rfl, trivial⟩, (hm.pick [] rfl (by decide)).pickφ [1] rfl⟩
  · replace H := ite_no h2 H
    refine wpc_no ht rfl (decide_eq_false h2) ?_
    refine wp_exit ?_
    refine then_exit ?_
    refine then_exit ?_
    refine blk_hit ?_
    refine then_normal ?_
    refine wp_seq ?_
    refine wpr ?_
    refine wpl rfl rfl ht (ev_move ht rfl rfl) ?_
    intro a ht
    refine wpl rfl rfl ht (ev_assign ht rfl rfl) ?_
    intro a ht
    refine wpList_nil ?_
    refine then_normal ?_
    refine wp_ret ?_
    have hres := ht.res (P := Try.prog) (w := w) (rs := [.tmp 4]) (vs := [.int .i64 xs0_1]) (.tmp rfl .nil)
    obtain rfl := Option.some.inj H
    exact leave ht rfl hres ⟨rfl, ((hm.pick [] rfl (by decide)).pickφ [] rfl).post fun _ h => h⟩

/-! ### laws_FnExactPointOrbits: function 6 (loop.example/g01362/laws.FnExactPointOrbits) -/
def laws_FnExactPointOrbits.f (k : Nat) (aX : Col) : Option (Bool) := (laws_toColouring.f k aX).bind fun t2 => (spec_PointOrbits.f k t2).bind fun t3 => (laws_toColouring.f k aX).bind fun t8 => (impl_PointOrbits.f k t8).bind fun t9 => (laws_eqInt64SS.f k t9.1 t3.1).bind fun t14 => if t14 = true then (if t9.2 ≠ t3.2 then (some false) else ((laws_markInt64SS.f k t9.1 1).bind fun t17 => (laws_heldInt64SS.f k t17.2 1).bind fun t18 => if t18 < 0 then (some false) else (if t18 ≠ t17.1 then (some false) else ((laws_toColouring.f k aX).bind fun t21 => (impl_PointOrbits.f k t21).bind fun t22 => (laws_eqInt64SS.f k t22.1 t3.1).bind fun t27 => if t27 = true then (if t22.2 ≠ t3.2 then (some false) else ((laws_heldInt64SS.f k t17.2 1).bind fun t30 => if t30 < 0 then (some false) else (if t30 ≠ t17.1 then (some false) else (some true)))) else (some false))))) else (some false)
set_option maxRecDepth 100000 in
set_option maxHeartbeats 20000000 in
theorem laws_FnExactPointOrbits.calls (k : Nat) (X : List Nat) (w0 : World)  (aX : Col) (r : Bool)
    (hp : Pre X w0 [] []) (H : laws_FnExactPointOrbits.f k aX = some r) :
    Calls Try.prog 6 [.agg (Col.cells aX).toArray].toArray w0 (Ret fun v w => v = .bool r ∧ Post X (fps []) w0 [] [] w) := by
  unfold laws_FnExactPointOrbits.f at H
  refine enterM (n := 66) hp Try.func6 rfl rfl (Nat.le_of_ble_eq_true rfl) fun a w ht hm => ?_
  refine wp_seq ?_
  refine wpr ?_
  refine wpl_box rfl rfl ht hm rfl rfl rfl ?_
  intro b1 a ht w hm
  refine wpl rfl rfl ht (ev_assign ht rfl rfl) ?_
  intro a ht
  refine wpList_nil ?_
  refine then_normal ?_
  refine wp_seq ?_
  refine wpr ?_
  refine wpl rfl rfl ht (ev_load_agg ht rfl rfl (ag_24.trans (by first | rw [Col.length_cells] | rfl)) (hm.blk_all 0 rfl)) ?_
  intro a ht
  obtain ⟨t2, et2, H⟩ := bind_get H
  have hcall := laws_toColouring.calls k _ _ aX _ ((fun (hq : Ms _ _ _ ([] ++ [.blk b1 24 (Col.cells aX)]) _ _) => hq.lend (φp := []) (allRO_nil)) (hm.pick (own' := [] ++ [.blk b1 24 (Col.cells aX)]) [0] rfl (by decide))) et2
  refine wpl_call _ rfl rfl ht rfl rfl rfl rfl can_8 hcall ?_
  clear hcall
  rintro _ w ⟨rfl, hpost⟩ a ht
  replace hm := (hm.pick (own' := [] ++ [.blk b1 24 (Col.cells aX)]) [0] rfl (by decide)).backL hpost
  clear hpost
  obtain ⟨t3, et3, H⟩ := bind_get H
  have hcall := spec_PointOrbits.calls k _ _ t2 _ ((hm.pick (own' := [] ++ [.blk b1 24 (Col.cells aX)]) [0] rfl (by decide)).give (passed := []) (rest := [.blk b1 24 (Col.cells aX)]) (φp := []) [] rfl) et3
  refine wpl_call _ rfl rfl ht rfl rfl rfl rfl can_15 hcall ?_
  clear hcall
  rintro _ w ⟨A4, c5, m6, vs7, rfl, hpost⟩ a ht
  replace hm := (hm.pick (own' := [] ++ [.blk b1 24 (Col.cells aX)]) [0] rfl (by decide)).back hpost
  clear hpost
  refine wpl rfl rfl ht (ev_move ht rfl rfl) ?_
  intro a ht
  refine wpl rfl rfl ht (ev_extract ht rfl rfl rfl) ?_
  intro a ht
  refine wpl rfl rfl ht (ev_extract ht rfl rfl rfl) ?_
  intro a ht
  refine wpl rfl rfl ht (ev_assign ht rfl rfl) ?_
  intro a ht
  refine wpl rfl rfl ht (ev_assign ht rfl rfl) ?_
  intro a ht
  refine wpList_nil ?_
  refine then_normal ?_
  refine wp_seq ?_
  refine wpr ?_
  refine wpl rfl rfl ht (ev_load_agg ht rfl rfl (ag_24.trans (by first | rw [Col.length_cells] | rfl)) (hm.blk_all 1 rfl)) ?_
  intro a ht
  obtain ⟨t8, et8, H⟩ := bind_get H
  have hcall := laws_toColouring.calls k _ _ aX _ ((fun (hq : Ms _ _ _ ([] ++ [.vec A4 c5 43 1 m6 vs7, .blk b1 24 (Col.cells aX)]) _ _) => hq.lend (φp := []) (allRO_nil)) (hm.pick (own' := [] ++ [.vec A4 c5 43 1 m6 vs7, .blk b1 24 (Col.cells aX)]) [0, 1] rfl (by decide))) et8
  refine wpl_call _ rfl rfl ht rfl rfl rfl rfl can_8 hcall ?_
  clear hcall
  rintro _ w ⟨rfl, hpost⟩ a ht
  replace hm := (hm.pick (own' := [] ++ [.vec A4 c5 43 1 m6 vs7, .blk b1 24 (Col.cells aX)]) [0, 1] rfl (by decide)).backL hpost
  clear hpost
  obtain ⟨t9, et9, H⟩ := bind_get H
  have hcall := impl_PointOrbits.calls k _ _ t8 _ ((fun (hq : Ms _ _ _ ([] ++ [.vec A4 c5 43 1 m6 vs7, .blk b1 24 (Col.cells aX)]) _ _) => hq.lend (φp := []) (allRO_nil)) (hm.pick (own' := [] ++ [.vec A4 c5 43 1 m6 vs7, .blk b1 24 (Col.cells aX)]) [0, 1] rfl (by decide))) et9
  refine wpl_call _ rfl rfl ht rfl rfl rfl rfl can_16 hcall ?_
  clear hcall
  rintro _ w ⟨A10, c11, m12, vs13, rfl, hpost⟩ a ht
  replace hm := (hm.pick (own' := [] ++ [.vec A4 c5 43 1 m6 vs7, .blk b1 24 (Col.cells aX)]) [0, 1] rfl (by decide)).backL hpost
  clear hpost
  refine wpl rfl rfl ht (ev_move ht rfl rfl) ?_
  intro a ht
  refine wpl rfl rfl ht (ev_extract ht rfl rfl rfl) ?_
  intro a ht
  refine wpl rfl rfl ht (ev_extract ht rfl rfl rfl) ?_
  intro a ht
  refine wpl rfl rfl ht (ev_assign ht rfl rfl) ?_
  intro a ht
  refine wpl rfl rfl ht (ev_assign ht rfl rfl) ?_
  intro a ht
  refine wpList_nil ?_
  refine then_normal ?_
  refine wp_seq ?_
  refine wp_seq ?_
  refine wpr ?_
  refine wpl rfl rfl ht (ev_move ht rfl rfl) ?_
  intro a ht
  refine wpl rfl rfl ht (ev_move ht rfl rfl) ?_
  intro a ht
  obtain ⟨t14, et14, H⟩ := bind_get H
  have hcall := laws_eqInt64SS.calls k _ _ A10 c11 m12 vs13 A4 c5 m6 vs7 t9.1 t3.1 _ ((fun (hq : Ms _ _ _ ([] ++ [.vecs A10 c11 43 2 m12 vs13 t9.1, .vec A4 c5 43 1 m6 vs7, .blk b1 24 (Col.cells aX)]) _ _) => hq.lend (φp := [RowsAt A10 c11 m12 vs13 t9.1, RowsAt A4 c5 m6 vs7 t3.1]) (allRO_cons (hq.lendVecs 0 rfl) (allRO_cons (hq.lendRows 1 0 rfl rfl) (allRO_nil)))) (hm.pick (own' := [] ++ [.vecs A10 c11 43 2 m12 vs13 t9.1, .vec A4 c5 43 1 m6 vs7, .blk b1 24 (Col.cells aX)]) [0, 1, 2] rfl (by decide))) et14
  refine wpl_call _ rfl rfl ht rfl rfl rfl rfl can_17 hcall ?_
  clear hcall
  rintro _ w ⟨rfl, hpost⟩ a ht
  replace hm := (hm.pick (own' := [] ++ [.vecs A10 c11 43 2 m12 vs13 t9.1, .vec A4 c5 43 1 m6 vs7, .blk b1 24 (Col.cells aX)]) [0, 1, 2] rfl (by decide)).backL hpost
  clear hpost
  refine wpl rfl rfl ht (ev_not ht rfl rfl) ?_
  intro a ht
  refine wpl rfl rfl ht (ev_move ht rfl rfl) ?_
  intro a ht
  by_cases h15 : t14 = true
  · replace H := ite_yes h15 H
    refine wpl_yes rfl ht rfl ((not_t h15)) ?_
    refine wpl rfl rfl ht (ev_move ht rfl rfl) ?_
    intro a ht
    refine wpl_yes rfl ht rfl ((not_t h15)) ?_
    refine wpl rfl rfl ht (ev_move ht rfl rfl) ?_
    intro a ht
    refine wpl_yes rfl ht rfl ((not_t h15)) ?_
    refine wpl rfl rfl ht (ev_cmp ht rfl rfl rfl rfl) ?_
    intro a ht
    refine wpl rfl rfl ht (ev_pick_no ht rfl rfl (not_t h15) rfl) ?_
    intro a ht
    refine wpList_nil ?_
    refine then_normal ?_
    by_cases h16 : t9.2 ≠ t3.2
    · replace H := ite_yes h16 H
      refine wpc_yes ht rfl (decide_eq_true h16) ?_
      refine wp_seq ?_
      refine wpr ?_
      refine wpl rfl rfl ht (ev_assign ht rfl rfl) ?_
      intro a ht
      refine wpList_nil ?_
      refine then_normal ?_
      refine wp_ret ?_
      refine then_ret ?_
      have hres := ht.res (P := Try.prog) (w := w) (rs := [.tmp 2]) (vs := [.bool false]) (.tmp rfl .nil)
      obtain rfl := Option.some.inj H
      exact leave ht rfl hres ⟨rfl, ((hm.pick [] rfl (by decide)).pickφ [] rfl).post fun _ h => h⟩
    · replace H := ite_no h16 H
      refine wpc_no ht rfl (decide_eq_false h16) ?_
      refine wp_skip ?_
      refine then_normal ?_
      refine wp_seq ?_
      refine wpr ?_
      refine wpl rfl rfl ht (ev_assign ht rfl rfl) ?_
      intro a ht
      refine wpList_nil ?_
      refine then_normal ?_
      refine wp_seq ?_
      refine wpr ?_
      refine wpl rfl rfl ht (ev_move ht rfl rfl) ?_
      intro a ht
      refine wpl rfl rfl ht (ev_move ht rfl rfl) ?_
      intro a ht
      obtain ⟨t17, et17, H⟩ := bind_get H
      have hcall := laws_markInt64SS.calls k _ _ A10 c11 m12 vs13 t9.1 1 _ ((fun (hq : Ms _ _ _ ([.vecs A10 c11 43 2 m12 vs13 t9.1] ++ [.vec A4 c5 43 1 m6 vs7, .blk b1 24 (Col.cells aX)]) _ _) => hq.lend (φp := []) (allRO_nil)) (hm.pick (own' := [.vecs A10 c11 43 2 m12 vs13 t9.1] ++ [.vec A4 c5 43 1 m6 vs7, .blk b1 24 (Col.cells aX)]) [0, 1, 2] rfl (by decide))) et17
      refine wpl_call _ rfl rfl ht rfl rfl rfl rfl can_18 hcall ?_
      clear hcall
      rintro _ w ⟨rfl, hpost⟩ a ht
      replace hm := (hm.pick (own' := [.vecs A10 c11 43 2 m12 vs13 t9.1] ++ [.vec A4 c5 43 1 m6 vs7, .blk b1 24 (Col.cells aX)]) [0, 1, 2] rfl (by decide)).backL hpost
      clear hpost
      refine wpl rfl rfl ht (ev_assign ht rfl rfl) ?_
      intro a ht
      refine wpList_nil ?_
      refine then_normal ?_
      refine wp_seq ?_
      refine wpr ?_
      refine wpl rfl rfl ht (ev_assign ht rfl rfl) ?_
      intro a ht
      refine wpList_nil ?_
      refine then_normal ?_
      refine wp_seq ?_
      refine wpr ?_
      refine wpl rfl rfl ht (ev_move ht rfl rfl) ?_
      intro a ht
      refine wpl rfl rfl ht (ev_move ht rfl rfl) ?_
      intro a ht
      obtain ⟨t18, et18, H⟩ := bind_get H
      have hcall := laws_heldInt64SS.calls k _ _ A10 c11 m12 vs13 t17.2 1 _ ((fun (hq : Ms _ _ _ ([] ++ [.vecs A10 c11 43 2 m12 vs13 t17.2, .vec A4 c5 43 1 m6 vs7, .blk b1 24 (Col.cells aX)]) _ _) => hq.lend (φp := [RowsAt A10 c11 m12 vs13 t17.2]) (allRO_cons (hq.lendVecs 0 rfl) (allRO_nil))) (hm.pick (own' := [] ++ [.vecs A10 c11 43 2 m12 vs13 t17.2, .vec A4 c5 43 1 m6 vs7, .blk b1 24 (Col.cells aX)]) [0, 1, 2] rfl (by decide))) et18
      refine wpl_call _ rfl rfl ht rfl rfl rfl rfl can_19 hcall ?_
      clear hcall
      rintro _ w ⟨rfl, hpost⟩ a ht
      replace hm := (hm.pick (own' := [] ++ [.vecs A10 c11 43 2 m12 vs13 t17.2, .vec A4 c5 43 1 m6 vs7, .blk b1 24 (Col.cells aX)]) [0, 1, 2] rfl (by decide)).backL hpost
      clear hpost
      refine wpl rfl rfl ht (ev_assign ht rfl rfl) ?_
      intro a ht
      refine wpList_nil ?_
      refine then_normal ?_
      refine wp_seq ?_
      refine wp_seq ?_
      refine wpr ?_
      refine wpl rfl rfl ht (ev_move ht rfl rfl) ?_
      intro a ht
      refine wpl rfl rfl ht (ev_cmp ht rfl rfl rfl rfl) ?_
      intro a ht
      refine wpList_nil ?_
      refine then_normal ?_
      by_cases h19 : t18 < 0
      · replace H := ite_yes h19 H
        refine wpc_yes ht rfl (decide_eq_true h19) ?_
        refine wp_seq ?_
        refine wpr ?_
        refine wpl rfl rfl ht (ev_assign ht rfl rfl) ?_
        intro a ht
        refine wpList_nil ?_
        refine then_normal ?_
        refine wp_ret ?_
        refine then_ret ?_
        have hres := ht.res (P := Try.prog) (w := w) (rs := [.tmp 2]) (vs := [.bool false]) (.tmp rfl .nil)
        obtain rfl := Option.some.inj H
        exact leave ht rfl hres ⟨rfl, ((hm.pick [] rfl (by decide)).pickφ [] rfl).post fun _ h => h⟩
      · replace H := ite_no h19 H
        refine wpc_no ht rfl (decide_eq_false h19) ?_
        refine wp_skip ?_
        refine then_normal ?_
        refine wp_seq ?_
        refine wp_seq ?_
        refine wpr ?_
        refine wpl rfl rfl ht (ev_move ht rfl rfl) ?_
        intro a ht
        refine wpl rfl rfl ht (ev_move ht rfl rfl) ?_
        intro a ht
        refine wpl rfl rfl ht (ev_cmp ht rfl rfl rfl rfl) ?_
        intro a ht
        refine wpList_nil ?_
        refine then_normal ?_
        by_cases h20 : t18 ≠ t17.1
        · replace H := ite_yes h20 H
          refine wpc_yes ht rfl (decide_eq_true h20) ?_
          refine wp_seq ?_
          refine wpr ?_
          refine wpl rfl rfl ht (ev_assign ht rfl rfl) ?_
          intro a ht
          refine wpList_nil ?_
          refine then_normal ?_
          refine wp_ret ?_
          refine then_ret ?_
          have hres := ht.res (P := Try.prog) (w := w) (rs := [.tmp 2]) (vs := [.bool false]) (.tmp rfl .nil)
          obtain rfl := Option.some.inj H
          exact leave ht rfl hres ⟨rfl, ((hm.pick [] rfl (by decide)).pickφ [] rfl).post fun _ h => h⟩
        · replace H := ite_no h20 H
          refine wpc_no ht rfl (decide_eq_false h20) ?_
          refine wp_skip ?_
          refine then_normal ?_
          refine wp_seq ?_
          refine wpr ?_
          refine wpl rfl rfl ht (ev_load_agg ht rfl rfl (ag_24.trans (by first | rw [Col.length_cells] | rfl)) (hm.blk_all 2 rfl)) ?_
          intro a ht
          obtain ⟨t21, et21, H⟩ := bind_get H
          have hcall := laws_toColouring.calls k _ _ aX _ ((fun (hq : Ms _ _ _ ([] ++ [.vecs A10 c11 43 2 m12 vs13 t17.2, .vec A4 c5 43 1 m6 vs7, .blk b1 24 (Col.cells aX)]) _ _) => hq.lend (φp := []) (allRO_nil)) (hm.pick (own' := [] ++ [.vecs A10 c11 43 2 m12 vs13 t17.2, .vec A4 c5 43 1 m6 vs7, .blk b1 24 (Col.cells aX)]) [0, 1, 2] rfl (by decide))) et21
          refine wpl_call _ rfl rfl ht rfl rfl rfl rfl can_8 hcall ?_
          clear hcall
          rintro _ w ⟨rfl, hpost⟩ a ht
          replace hm := (hm.pick (own' := [] ++ [.vecs A10 c11 43 2 m12 vs13 t17.2, .vec A4 c5 43 1 m6 vs7, .blk b1 24 (Col.cells aX)]) [0, 1, 2] rfl (by decide)).backL hpost
          clear hpost
          obtain ⟨t22, et22, H⟩ := bind_get H
          have hcall := impl_PointOrbits.calls k _ _ t21 _ ((fun (hq : Ms _ _ _ ([] ++ [.vecs A10 c11 43 2 m12 vs13 t17.2, .vec A4 c5 43 1 m6 vs7, .blk b1 24 (Col.cells aX)]) _ _) => hq.lend (φp := []) (allRO_nil)) (hm.pick (own' := [] ++ [.vecs A10 c11 43 2 m12 vs13 t17.2, .vec A4 c5 43 1 m6 vs7, .blk b1 24 (Col.cells aX)]) [0, 1, 2] rfl (by decide))) et22
          refine wpl_call _ rfl rfl ht rfl rfl rfl rfl can_16 hcall ?_
          clear hcall
          rintro _ w ⟨A23, c24, m25, vs26, rfl, hpost⟩ a ht
          replace hm := (hm.pick (own' := [] ++ [.vecs A10 c11 43 2 m12 vs13 t17.2, .vec A4 c5 43 1 m6 vs7, .blk b1 24 (Col.cells aX)]) [0, 1, 2] rfl (by decide)).backL hpost
          clear hpost
          refine wpl rfl rfl ht (ev_move ht rfl rfl) ?_
          intro a ht
          refine wpl rfl rfl ht (ev_extract ht rfl rfl rfl) ?_
          intro a ht
          refine wpl rfl rfl ht (ev_extract ht rfl rfl rfl) ?_
          intro a ht
          refine wpl rfl rfl ht (ev_assign ht rfl rfl) ?_
          intro a ht
          refine wpl rfl rfl ht (ev_assign ht rfl rfl) ?_
          intro a ht
          refine wpList_nil ?_
          refine then_normal ?_
          refine wp_seq ?_
          refine wp_seq ?_
          refine wpr ?_
          refine wpl rfl rfl ht (ev_move ht rfl rfl) ?_
          intro a ht
          refine wpl rfl rfl ht (ev_move ht rfl rfl) ?_
          intro a ht
          obtain ⟨t27, et27, H⟩ := bind_get H
          have hcall := laws_eqInt64SS.calls k _ _ A23 c24 m25 vs26 A4 c5 m6 vs7 t22.1 t3.1 _ ((fun (hq : Ms _ _ _ ([] ++ [.vecs A23 c24 43 2 m25 vs26 t22.1, .vecs A10 c11 43 2 m12 vs13 t17.2, .vec A4 c5 43 1 m6 vs7, .blk b1 24 (Col.cells aX)]) _ _) => hq.lend (φp := [RowsAt A23 c24 m25 vs26 t22.1, RowsAt A4 c5 m6 vs7 t3.1]) (allRO_cons (hq.lendVecs 0 rfl) (allRO_cons (hq.lendRows 2 0 rfl rfl) (allRO_nil)))) (hm.pick (own' := [] ++ [.vecs A23 c24 43 2 m25 vs26 t22.1, .vecs A10 c11 43 2 m12 vs13 t17.2, .vec A4 c5 43 1 m6 vs7, .blk b1 24 (Col.cells aX)]) [0, 1, 2, 3] rfl (by decide))) et27
          refine wpl_call _ rfl rfl ht rfl rfl rfl rfl can_17 hcall ?_
          clear hcall
          rintro _ w ⟨rfl, hpost⟩ a ht
          replace hm := (hm.pick (own' := [] ++ [.vecs A23 c24 43 2 m25 vs26 t22.1, .vecs A10 c11 43 2 m12 vs13 t17.2, .vec A4 c5 43 1 m6 vs7, .blk b1 24 (Col.cells aX)]) [0, 1, 2, 3] rfl (by decide)).backL hpost
          clear hpost
          refine wpl rfl rfl ht (ev_not ht rfl rfl) ?_
          intro a ht
          refine wpl rfl rfl ht (ev_move ht rfl rfl) ?_
          intro a ht
          by_cases h28 : t27 = true
          · replace H := ite_yes h28 H
            refine wpl_yes rfl ht rfl ((not_t h28)) ?_
            refine wpl rfl rfl ht (ev_move ht rfl rfl) ?_
            intro a ht
            refine wpl_yes rfl ht rfl ((not_t h28)) ?_
            refine wpl rfl rfl ht (ev_move ht rfl rfl) ?_
            intro a ht
            refine wpl_yes rfl ht rfl ((not_t h28)) ?_
            refine wpl rfl rfl ht (ev_cmp ht rfl rfl rfl rfl) ?_
            intro a ht
            refine wpl rfl rfl ht (ev_pick_no ht rfl rfl (not_t h28) rfl) ?_
            intro a ht
            refine wpList_nil ?_
            refine then_normal ?_
            by_cases h29 : t22.2 ≠ t3.2
            · replace H := ite_yes h29 H
              refine wpc_yes ht rfl (decide_eq_true h29) ?_
              refine wp_seq ?_
              refine wpr ?_
              refine wpl rfl rfl ht (ev_assign ht rfl rfl) ?_
              intro a ht
              refine wpList_nil ?_
              refine then_normal ?_
              refine wp_ret ?_
              refine then_ret ?_
              have hres := ht.res (P := Try.prog) (w := w) (rs := [.tmp 2]) (vs := [.bool false]) (.tmp rfl .nil)
              obtain rfl := Option.some.inj H
              exact leave ht rfl hres ⟨rfl, ((hm.pick [] rfl (by decide)).pickφ [] rfl).post fun _ h => h⟩
            · replace H := ite_no h29 H
              refine wpc_no ht rfl (decide_eq_false h29) ?_
              refine wp_skip ?_
              refine then_normal ?_
              refine wp_seq ?_
              refine wpr ?_
              refine wpl rfl rfl ht (ev_assign ht rfl rfl) ?_
              intro a ht
              refine wpList_nil ?_
              refine then_normal ?_
              refine wp_seq ?_
              refine wpr ?_
              refine wpl rfl rfl ht (ev_move ht rfl rfl) ?_
              intro a ht
              refine wpl rfl rfl ht (ev_move ht rfl rfl) ?_
              intro a ht
              obtain ⟨t30, et30, H⟩ := bind_get H
              have hcall := laws_heldInt64SS.calls k _ _ A10 c11 m12 vs13 t17.2 1 _ ((fun (hq : Ms _ _ _ ([] ++ [.vecs A23 c24 43 2 m25 vs26 t22.1, .vecs A10 c11 43 2 m12 vs13 t17.2, .vec A4 c5 43 1 m6 vs7, .blk b1 24 (Col.cells aX)]) _ _) => hq.lend (φp := [RowsAt A10 c11 m12 vs13 t17.2]) (allRO_cons (hq.lendVecs 1 rfl) (allRO_nil))) (hm.pick (own' := [] ++ [.vecs A23 c24 43 2 m25 vs26 t22.1, .vecs A10 c11 43 2 m12 vs13 t17.2, .vec A4 c5 43 1 m6 vs7, .blk b1 24 (Col.cells aX)]) [0, 1, 2, 3] rfl (by decide))) et30
              refine wpl_call _ rfl rfl ht rfl rfl rfl rfl can_19 hcall ?_
              clear hcall
              rintro _ w ⟨rfl, hpost⟩ a ht
              replace hm := (hm.pick (own' := [] ++ [.vecs A23 c24 43 2 m25 vs26 t22.1, .vecs A10 c11 43 2 m12 vs13 t17.2, .vec A4 c5 43 1 m6 vs7, .blk b1 24 (Col.cells aX)]) [0, 1, 2, 3] rfl (by decide)).backL hpost
              clear hpost
              refine wpl rfl rfl ht (ev_assign ht rfl rfl) ?_
              intro a ht
              refine wpList_nil ?_
              refine then_normal ?_
              refine wp_seq ?_
              refine wp_seq ?_
              refine wpr ?_
              refine wpl rfl rfl ht (ev_move ht rfl rfl) ?_
              intro a ht
              refine wpl rfl rfl ht (ev_cmp ht rfl rfl rfl rfl) ?_
              intro a ht
              refine wpList_nil ?_
              refine then_normal ?_
              by_cases h31 : t30 < 0
              · replace H := ite_yes h31 H
                refine wpc_yes ht rfl (decide_eq_true h31) ?_
                refine wp_seq ?_
                refine wpr ?_
                refine wpl rfl rfl ht (ev_assign ht rfl rfl) ?_
                intro a ht
                refine wpList_nil ?_
                refine then_normal ?_
                refine wp_ret ?_
                refine then_ret ?_
                have hres := ht.res (P := Try.prog) (w := w) (rs := [.tmp 2]) (vs := [.bool false]) (.tmp rfl .nil)
                obtain rfl := Option.some.inj H
                exact leave ht rfl hres ⟨rfl, ((hm.pick [] rfl (by decide)).pickφ [] rfl).post fun _ h => h⟩
              · replace H := ite_no h31 H
                refine wpc_no ht rfl (decide_eq_false h31) ?_
                refine wp_skip ?_
                refine then_normal ?_
                refine wp_seq ?_
                refine wp_seq ?_
                refine wpr ?_
                refine wpl rfl rfl ht (ev_move ht rfl rfl) ?_
                intro a ht
                refine wpl rfl rfl ht (ev_move ht rfl rfl) ?_
                intro a ht
                refine wpl rfl rfl ht (ev_cmp ht rfl rfl rfl rfl) ?_
                intro a ht
                refine wpList_nil ?_
                refine then_normal ?_
                by_cases h32 : t30 ≠ t17.1
                · replace H := ite_yes h32 H
                  refine wpc_yes ht rfl (decide_eq_true h32) ?_
                  refine wp_seq ?_
                  refine wpr ?_
                  refine wpl rfl rfl ht (ev_assign ht rfl rfl) ?_
                  intro a ht
                  refine wpList_nil ?_
                  refine then_normal ?_
                  refine wp_ret ?_
                  refine then_ret ?_
                  have hres := ht.res (P := Try.prog) (w := w) (rs := [.tmp 2]) (vs := [.bool false]) (.tmp rfl .nil)
                  obtain rfl := Option.some.inj H
                  exact leave ht rfl hres ⟨rfl, ((hm.pick [] rfl (by decide)).pickφ [] rfl).post fun _ h => h⟩
                · replace H := ite_no h32 H
                  refine wpc_no ht rfl (decide_eq_false h32) ?_
                  refine wp_skip ?_
                  refine then_normal ?_
                  refine wp_seq ?_
                  refine wpr ?_
                  refine wpl rfl rfl ht (ev_assign ht rfl rfl) ?_
                  intro a ht
                  refine wpList_nil ?_
                  refine then_normal ?_
                  refine wp_ret ?_
                  have hres := ht.res (P := Try.prog) (w := w) (rs := [.tmp 2]) (vs := [.bool true]) (.tmp rfl .nil)
                  obtain rfl := Option.some.inj H
                  exact leave ht rfl hres ⟨rfl, ((hm.pick [] rfl (by decide)).pickφ [] rfl).post fun _ h => h⟩
          · replace H := ite_no h28 H
            refine wpl_no rfl rfl ht rfl (by rw [(not_f (Bool.eq_false_iff.mpr h28))]; decide) ?_
            intro a ht
            refine wpl_no rfl rfl ht rfl (by rw [(not_f (Bool.eq_false_iff.mpr h28))]; decide) ?_
            intro a ht
            refine wpl_no rfl rfl ht rfl (by rw [(not_f (Bool.eq_false_iff.mpr h28))]; decide) ?_
            intro a ht
            refine wpl rfl rfl ht (ev_pick_yes ht rfl rfl (not_f (Bool.eq_false_iff.mpr h28)) rfl) ?_
            intro a ht
            refine wpList_nil ?_
            refine then_normal ?_
            refine wpc_yes ht rfl rfl ?_
            refine wp_seq ?_
            refine wpr ?_
            refine wpl rfl rfl ht (ev_assign ht rfl rfl) ?_
            intro a ht
            refine wpList_nil ?_
            refine then_normal ?_
            refine wp_ret ?_
            refine then_ret ?_
            have hres := ht.res (P := Try.prog) (w := w) (rs := [.tmp 2]) (vs := [.bool false]) (.tmp rfl .nil)
            obtain rfl := Option.some.inj H
            exact leave ht rfl hres ⟨rfl, ((hm.pick [] rfl (by decide)).pickφ [] rfl).post fun _ h => h⟩
  · replace H := ite_no h15 H
    refine wpl_no rfl rfl ht rfl (by rw [(not_f (Bool.eq_false_iff.mpr h15))]; decide) ?_
    intro a ht
    refine wpl_no rfl rfl ht rfl (by rw [(not_f (Bool.eq_false_iff.mpr h15))]; decide) ?_
    intro a ht
    refine wpl_no rfl rfl ht rfl (by rw [(not_f (Bool.eq_false_iff.mpr h15))]; decide) ?_
    intro a ht
    refine wpl rfl rfl ht (ev_pick_yes ht rfl rfl (not_f (Bool.eq_false_iff.mpr h15)) rfl) ?_
    intro a ht
    refine wpList_nil ?_
    refine then_normal ?_
    refine wpc_yes ht rfl rfl ?_
    refine wp_seq ?_
    refine wpr ?_
    refine wpl rfl rfl ht (ev_assign ht rfl rfl) ?_
    intro a ht
    refine wpList_nil ?_
    refine then_normal ?_
    refine wp_ret ?_
    refine then_ret ?_
    have hres := ht.res (P := Try.prog) (w := w) (rs := [.tmp 2]) (vs := [.bool false]) (.tmp rfl .nil)
    obtain rfl := Option.some.inj H
    exact leave ht rfl hres ⟨rfl, ((hm.pick [] rfl (by decide)).pickφ [] rfl).post fun _ h => h⟩

end Go.Proofs.Ytbgniopmmankdaa.G
