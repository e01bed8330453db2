/- What each Go function computes, as a Lean function, and the proof that it does: written by a program of this session (wip/gen), part 3. -/
import Derived.Test.YtfbdcidedjocdaaGFnExactLeastPosition2
namespace Go.Proofs.Ytfbdcidedjocdaa.G
open Go Go.RowKit Go.Proofs.Ytfbdcidedjocdaa.K
set_option linter.unusedVariables false
set_option linter.unusedSimpArgs false

/-! ### spec_l09Renumbered: function 85 (loop.example/g01362/spec.l09Renumbered) -/
mutual
def spec_l09Renumbered.l0 : Nat → Int → List Int → List Int → List Int → Int → Option (List Int)
  | 0, _, _, _, _, _ => none
  | q6 + 1, n_, list, p, ls0_1, xs0_2 => if xs0_2 < n_ then (spec_l09Renumbered.l1 q6 n_ list p xs0_2 ls0_1 0) else (some ls0_1)
def spec_l09Renumbered.l1 : Nat → Int → List Int → List Int → Int → List Int → Int → Option (List Int)
  | 0, _, _, _, _, _, _ => none
  | q8 + 1, n_, list, p, xs0_2, ls1_1, xs1_2 => if xs1_2 < xs0_2 then ((getI p xs1_2).bind fun t10 => (getI p xs0_2).bind fun t11 => (spec_l01Edge.f t10 t11).bind fun t12 => (spec_l01Edge.f xs1_2 xs0_2).bind fun t13 => (getI list t13).bind fun t14 => (getI ls1_1 t12).bind fun t15 => spec_l09Renumbered.l1 q8 n_ list p xs0_2 (ls1_1.set t12.toNat t14) (w64 (xs1_2 + 1))) else (spec_l09Renumbered.l0 q8 n_ list p ls1_1 (w64 (xs0_2 + 1)))
end
def spec_l09Renumbered.f (k : Nat) (n_ : Int) (list : List Int) (p : List Int) : Option (List Int) := (spec_l01Own.f list).bind fun t1 => spec_l09Renumbered.l0 k n_ list p t1 1
set_option maxRecDepth 100000 in
set_option maxHeartbeats 1000000 in
theorem spec_l09Renumbered.calls (k : Nat) (X : List Nat) (w0 : World) (A : Option Addr) (c : Nat) (m : Nat) (A2 : Option Addr) (c2 : Nat) (m2 : Nat) (n_ : Int) (list : List Int) (p : List Int) (r : List Int)
    (hp : Pre X w0 [] [IntsAt A c m list, IntsAt A2 c2 m2 p]) (H : spec_l09Renumbered.f k n_ list p = some r) :
    Calls Try.prog 85 [.int .i64 n_, .slice A m c, .slice A2 m2 c2].toArray w0 (Ret fun v w => ∃ (A_0 : Option Addr) (c_0 : Nat) (n_0 : Nat), v = .slice A_0 n_0 c_0 ∧ Post X (fps []) w0 [.vec A_0 c_0 2 1 n_0 (ints r)] [] w) := by
  unfold spec_l09Renumbered.f at H
  refine enterM (n := 40) hp Try.func85 rfl rfl (Nat.le_of_ble_eq_true rfl) fun a w ht hm => ?_
  refine wp_seq ?_
  refine wpr ?_
  refine wpl rfl rfl ht (ev_assign ht rfl rfl) ?_
  intro a ht
  refine wpList_nil ?_
  refine then_normal ?_
  refine wp_seq ?_
  refine wpr ?_
  refine wpl rfl rfl ht (ev_move ht rfl rfl) ?_
  intro a ht
  obtain ⟨t1, et1, H⟩ := bind_get H
  have hcall := spec_l01Own.calls _ _ A c m list _ ((fun (hq : Ms _ _ _ ([] ++ []) _ _) => hq.lend (φp := [IntsAt A c m list]) (allRO_cons (hq.lendFact 0 rfl) (allRO_nil))) (hm.pick (own' := [] ++ []) [] rfl (by decide))) et1
  refine wpl_call _ rfl rfl ht rfl rfl rfl rfl can_66 hcall ?_
  clear hcall
  rintro _ w ⟨A3, c4, m5, rfl, hpost⟩ a ht
  replace hm := (hm.pick (own' := [] ++ []) [] rfl (by decide)).backL hpost
  clear hpost
  refine wpl rfl rfl ht (ev_assign ht rfl rfl) ?_
  intro a ht
  refine wpList_nil ?_
  refine then_normal ?_
  refine wp_seq ?_
  refine wp_seq ?_
  refine wpr ?_
  refine wpl rfl rfl ht (ev_assign ht rfl rfl) ?_
  intro a ht
  refine wpList_nil ?_
  refine then_normal ?_
  refine wp_block ?_
  refine wpLoop (fun q a w => ∃ (ls0_1 : List Int) (xs0_2 : Int), spec_l09Renumbered.l0 q n_ list p ls0_1 xs0_2 = some r ∧ q ≤ k ∧ Tm 40 [(0, .int .i64 n_), (1, .slice A m c), (2, .slice A2 m2 c2), (6, .slice none 0 0), (7, .slice A3 m5 c4), (8, .int .i64 xs0_2)] a ∧ Ms X (fps []) w0 [.vec A3 c4 2 1 m5 (ints ls0_1)] [IntsAt A c m list, IntsAt A2 c2 m2 p] w) (k0 := k) ⟨t1, 1, H, Nat.le_refl _, ht.sub ⟨rfl, rfl, rfl, rfl, rfl, rfl, trivial⟩, (hm.pick [0] rfl (by decide)).pickφ [0, 1] rfl⟩ ?_
  clear H ht hm
  intro q6 a w hJ
  obtain ⟨ls0_1, xs0_2, H, hqq6, ht, hm⟩ := hJ
  cases q6 with
  | zero => cases H
  | succ q6 =>
  rw [spec_l09Renumbered.l0] at H
  refine wp_seq ?_
  refine wp_seq ?_
  refine wpr ?_
  refine wpl rfl rfl ht (ev_move ht rfl rfl) ?_
  intro a ht
  refine wpl rfl rfl ht (ev_move ht rfl rfl) ?_
  intro a ht
  refine wpl rfl rfl ht (ev_cmp ht rfl rfl rfl rfl) ?_
  intro a ht
  refine wpList_nil ?_
  refine then_normal ?_
  by_cases h7 : xs0_2 < n_
  · replace H := ite_yes h7 H
    refine wpc_yes ht rfl (decide_eq_true h7) ?_
    refine wp_skip ?_
    refine then_normal ?_
    refine wp_seq ?_
    refine wp_block ?_
    refine wp_seq ?_
    refine wpr ?_
    refine wpl rfl rfl ht (ev_assign ht rfl rfl) ?_
    intro a ht
    refine wpList_nil ?_
    refine then_normal ?_
    refine wp_block ?_
    refine wpLoop (fun q a w => ∃ (ls1_1 : List Int) (xs1_2 : Int), spec_l09Renumbered.l1 q n_ list p xs0_2 ls1_1 xs1_2 = some r ∧ q ≤ q6 ∧ Tm 40 [(0, .int .i64 n_), (1, .slice A m c), (2, .slice A2 m2 c2), (6, .slice none 0 0), (7, .slice A3 m5 c4), (8, .int .i64 xs0_2), (12, .int .i64 xs0_2), (13, .int .i64 n_), (14, .bool (decide (xs0_2 < n_))), (9, .int .i64 xs1_2)] a ∧ Ms X (fps []) w0 [.vec A3 c4 2 1 m5 (ints ls1_1)] [IntsAt A c m list, IntsAt A2 c2 m2 p] w) (k0 := q6) ⟨ls0_1, 0, H, Nat.le_refl _, ht.sub ⟨rfl, rfl, rfl, rfl, rfl, rfl, rfl, rfl, rfl, rfl, trivial⟩, (hm.pick [0] rfl (by decide)).pickφ [0, 1] rfl⟩ ?_
    clear H ht hm
    intro q8 a w hJ
    obtain ⟨ls1_1, xs1_2, H, hqq8, ht, hm⟩ := hJ
    cases q8 with
    | zero => cases H
    | succ q8 =>
    rw [spec_l09Renumbered.l1] at H
    refine wp_seq ?_
    refine wp_seq ?_
    refine wpr ?_
    refine wpl rfl rfl ht (ev_move ht rfl rfl) ?_
    intro a ht
    refine wpl rfl rfl ht (ev_move ht rfl rfl) ?_
    intro a ht
    refine wpl rfl rfl ht (ev_cmp ht rfl rfl rfl rfl) ?_
    intro a ht
    refine wpList_nil ?_
    refine then_normal ?_
    by_cases h9 : xs1_2 < xs0_2
    · replace H := ite_yes h9 H
      refine wpc_yes ht rfl (decide_eq_true h9) ?_
      refine wp_skip ?_
      refine then_normal ?_
      refine wp_seq ?_
      refine wp_block ?_
      refine wph_begin (fun w => Ms X (fps []) w0 [] [IntsAt A c m list, IntsAt A2 c2 m2 p] w) mixed ?_
      replace hm := hm.drew
      have hS : Ms X (fps []) w0 [] [IntsAt A c m list, IntsAt A2 c2 m2 p] w.drew := (hm.pick [] rfl (by decide)).pickφ [0, 1] rfl
      generalize w.drew = w at hm hS ⊢
      refine wph_take (i := 0) rfl (by kernel_rfl) (by kernel_rfl) (by kernel_rfl) (fun _ _ _ h => h) rfl ht hS (wanted_plain rfl) (fun w hm => ev_move ht rfl rfl) ?_
      intro a ht
      refine wph_take (i := 1) rfl (by kernel_rfl) (by kernel_rfl) (by kernel_rfl) (fun _ _ _ h => h) rfl ht hS (wanted_plain rfl) (fun w hm => ev_move ht rfl rfl) ?_
      intro a ht
      refine wph_take (i := 2) rfl (by kernel_rfl) (by kernel_rfl) (by kernel_rfl) (fun _ _ _ h => h) rfl ht hS (wanted_plain rfl) (fun w hm => ev_move ht rfl rfl) ?_
      intro a ht
      obtain ⟨t10, et10, H⟩ := bind_get H
      refine wph_take (i := 3) rfl (by kernel_rfl) (by kernel_rfl) (by kernel_rfl) (fun _ _ _ h => h) rfl ht hS (wanted_plain rfl) (fun w hm => ev_index_ints ht rfl rfl rfl so_22 (hm.fact (φ := IntsAt A2 c2 m2 p) 1 rfl) et10) ?_
      intro a ht
      refine wph_take (i := 4) rfl (by kernel_rfl) (by kernel_rfl) (by kernel_rfl) (fun _ _ _ h => h) rfl ht hS (wanted_plain rfl) (fun w hm => ev_load ht rfl rfl sc_2 (RowAt.cell (hm.fact (φ := IntsAt A2 c2 m2 p) 1 rfl) (ints_get et10) rfl)) ?_
      intro a ht
      refine wph_take (i := 5) rfl (by kernel_rfl) (by kernel_rfl) (by kernel_rfl) (fun _ _ _ h => h) rfl ht hS (wanted_plain rfl) (fun w hm => ev_move ht rfl rfl) ?_
      intro a ht
      refine wph_take (i := 6) rfl (by kernel_rfl) (by kernel_rfl) (by kernel_rfl) (fun _ _ _ h => h) rfl ht hS (wanted_plain rfl) (fun w hm => ev_move ht rfl rfl) ?_
      intro a ht
      obtain ⟨t11, et11, H⟩ := bind_get H
      refine wph_take (i := 7) rfl (by kernel_rfl) (by kernel_rfl) (by kernel_rfl) (fun _ _ _ h => h) rfl ht hS (wanted_plain rfl) (fun w hm => ev_index_ints ht rfl rfl rfl so_22 (hm.fact (φ := IntsAt A2 c2 m2 p) 1 rfl) et11) ?_
      intro a ht
      refine wph_take (i := 8) rfl (by kernel_rfl) (by kernel_rfl) (by kernel_rfl) (fun _ _ _ h => h) rfl ht hS (wanted_plain rfl) (fun w hm => ev_load ht rfl rfl sc_2 (RowAt.cell (hm.fact (φ := IntsAt A2 c2 m2 p) 1 rfl) (ints_get et11) rfl)) ?_
      intro a ht
      refine wph_take (i := 10) rfl (by kernel_rfl) (by kernel_rfl) (by kernel_rfl) (fun _ _ _ h => h) rfl ht hS (wanted_plain rfl) (fun w hm => ev_move ht rfl rfl) ?_
      intro a ht
      refine wph_take (i := 11) rfl (by kernel_rfl) (by kernel_rfl) (by kernel_rfl) (fun _ _ _ h => h) rfl ht hS (wanted_plain rfl) (fun w hm => ev_move ht rfl rfl) ?_
      intro a ht
      refine wph_take (i := 12) rfl (by kernel_rfl) (by kernel_rfl) (by kernel_rfl) (fun _ _ _ h => h) rfl ht hS (wanted_plain rfl) (fun w hm => ev_move ht rfl rfl) ?_
      intro a ht
      refine wph_one (i := 9) (by kernel_rfl) (wph_step rfl ?_)
      obtain ⟨t12, et12, H⟩ := bind_get H
      have hcall := spec_l01Edge.calls _ _ t10 t11 _ ((fun (hq : Ms _ _ _ ([] ++ [.vec A3 c4 2 1 m5 (ints ls1_1)]) _ _) => hq.lend (φp := []) (allRO_nil)) (hm.pick (own' := [] ++ [.vec A3 c4 2 1 m5 (ints ls1_1)]) [0] rfl (by decide))) et12
      refine wpl_call _ rfl rfl ht rfl rfl rfl rfl can_79 hcall ?_
      clear hcall
      rintro _ w ⟨rfl, hpost⟩ a ht
      replace hm := (hm.pick (own' := [] ++ [.vec A3 c4 2 1 m5 (ints ls1_1)]) [0] rfl (by decide)).backL hpost
      clear hpost
      have hS : Ms X (fps []) w0 [] [IntsAt A c m list, IntsAt A2 c2 m2 p] w := (hm.pick [] rfl (by decide)).pickφ [0, 1] rfl
      refine wpList_nil (qn ⟨hS, ?_⟩)
      refine wph_one (i := 13) (by kernel_rfl) (wph_step rfl ?_)
      obtain ⟨t13, et13, H⟩ := bind_get H
      have hcall := spec_l01Edge.calls _ _ xs1_2 xs0_2 _ ((fun (hq : Ms _ _ _ ([] ++ [.vec A3 c4 2 1 m5 (ints ls1_1)]) _ _) => hq.lend (φp := []) (allRO_nil)) (hm.pick (own' := [] ++ [.vec A3 c4 2 1 m5 (ints ls1_1)]) [0] rfl (by decide))) et13
      refine wpl_call _ rfl rfl ht rfl rfl rfl rfl can_79 hcall ?_
      clear hcall
      rintro _ w ⟨rfl, hpost⟩ a ht
      replace hm := (hm.pick (own' := [] ++ [.vec A3 c4 2 1 m5 (ints ls1_1)]) [0] rfl (by decide)).backL hpost
      clear hpost
      have hS : Ms X (fps []) w0 [] [IntsAt A c m list, IntsAt A2 c2 m2 p] w := (hm.pick [] rfl (by decide)).pickφ [0, 1] rfl
      refine wpList_nil (qn ⟨hS, ?_⟩)
      obtain ⟨t14, et14, H⟩ := bind_get H
      refine wph_take (i := 14) rfl (by kernel_rfl) (by kernel_rfl) (by kernel_rfl) (fun _ _ _ h => h) rfl ht hS (wanted_plain rfl) (fun w hm => ev_index_ints ht rfl rfl rfl so_22 (hm.fact (φ := IntsAt A c m list) 0 rfl) et14) ?_
      intro a ht
      refine wph_take (i := 15) rfl (by kernel_rfl) (by kernel_rfl) (by kernel_rfl) (fun _ _ _ h => h) rfl ht hS (wanted_plain rfl) (fun w hm => ev_load ht rfl rfl sc_2 (RowAt.cell (hm.fact (φ := IntsAt A c m list) 0 rfl) (ints_get et14) rfl)) ?_
      intro a ht
      refine wph_one (i := 16) (by kernel_rfl) (wph_step rfl ?_)
      obtain ⟨t15, et15, H⟩ := bind_get H
      refine wpl rfl rfl ht (ev_index_ints ht rfl rfl rfl so_22 (hm.vec_row 0 rfl) et15) ?_
      intro a ht
      have hS : Ms X (fps []) w0 [] [IntsAt A c m list, IntsAt A2 c2 m2 p] w := (hm.pick [] rfl (by decide)).pickφ [0, 1] rfl
      refine wpList_nil (qn ⟨hS, ?_⟩)
      refine wph_one (i := 17) (by kernel_rfl) (wph_step rfl ?_)
      refine wpl_store_int 0 rfl rfl ht hm rfl rfl rfl sz1_2 rfl et15 ?_
      intro a ht w hm
      have hS : Ms X (fps []) w0 [] [IntsAt A c m list, IntsAt A2 c2 m2 p] w := (hm.pick [] rfl (by decide)).pickφ [0, 1] rfl
      refine wpList_nil (qn ⟨hS, ?_⟩)
      refine wph_done (by kernel_rfl) ?_
      refine blk_normal ?_
      refine then_normal ?_
      refine wpr ?_
      refine wpl rfl rfl ht (ev_move ht rfl rfl) ?_
      intro a ht
      refine wpl rfl rfl ht (ev_arith ht rfl rfl rfl rfl) ?_
      intro a ht
      refine wpl rfl rfl ht (ev_assign ht rfl rfl) ?_
      intro a ht
      refine wpList_nil ?_
      exact then_normal ⟨q8, by omega, (ls1_1.set t12.toNat t14), (w64 (xs1_2 + 1)), H, by omega, ht.sub ⟨rfl, rfl, rfl, rfl, rfl, rfl, rfl, rfl, rfl, rfl, trivial⟩, (hm.pick [0] rfl (by decide)).pickφ [0, 1] rfl⟩
    · replace H := ite_no h9 H
      refine wpc_no ht rfl (decide_eq_false h9) ?_
      refine wp_exit ?_
      refine then_exit ?_
      refine then_exit ?_
      refine blk_hit ?_
      refine blk_normal ?_
      refine then_normal ?_
      refine wpr ?_
      refine wpl rfl rfl ht (ev_move ht rfl rfl) ?_
      intro a ht
      refine wpl rfl rfl ht (ev_arith ht rfl rfl rfl rfl) ?_
      intro a ht
      refine wpl rfl rfl ht (ev_assign ht rfl rfl) ?_
      intro a ht
      refine wpList_nil ?_
      exact then_normal ⟨q8, by omega, ls1_1, (w64 (xs0_2 + 1)), H, by omega, ht.sub ⟨rfl, rfl, rfl, rfl, rfl, rfl, trivial⟩, (hm.pick [0] rfl (by decide)).pickφ [0, 1] rfl⟩
  · replace H := ite_no h7 H
    refine wpc_no ht rfl (decide_eq_false h7) ?_
    refine wp_exit ?_
    refine then_exit ?_
    refine then_exit ?_
    refine blk_hit ?_
    refine then_normal ?_
    refine wp_seq ?_
    refine wpr ?_
    refine wpl rfl rfl ht (ev_move ht rfl rfl) ?_
    intro a ht
    refine wpl rfl rfl ht (ev_assign ht rfl rfl) ?_
    intro a ht
    refine wpList_nil ?_
    refine then_normal ?_
    refine wp_ret ?_
    have hres := ht.res (P := Try.prog) (w := w) (rs := [.tmp 6]) (vs := [.slice A3 m5 c4]) (.tmp rfl .nil)
    obtain rfl := Option.some.inj H
    exact leave ht rfl hres ⟨A3, c4, m5, rfl, ((hm.pick [0] rfl (by decide)).pickφ [] rfl).post fun _ h => h⟩

/-! ### spec_l09Before: function 86 (loop.example/g01362/spec.l09Before) -/
def spec_l09Before.l0 : Nat → List Int → List Int → Int → Option (Bool)
  | 0, _, _, _ => none
  | q1 + 1, a_, b, xs0_1 => if xs0_1 < (a_.length : Int) then ((getI a_ xs0_1).bind fun t3 => (getI b xs0_1).bind fun t4 => if t3 ≠ t4 then ((getI a_ xs0_1).bind fun t6 => (getI b xs0_1).bind fun t7 => some (decide (t6 < t7))) else (spec_l09Before.l0 q1 a_ b (w64 (xs0_1 + 1)))) else (some false)
def spec_l09Before.f (k : Nat) (a_ : List Int) (b : List Int) : Option (Bool) := spec_l09Before.l0 k a_ b 0
set_option maxRecDepth 100000 in
set_option maxHeartbeats 1000000 in
theorem spec_l09Before.calls (k : Nat) (X : List Nat) (w0 : World) (A : Option Addr) (c : Nat) (m : Nat) (A2 : Option Addr) (c2 : Nat) (m2 : Nat) (a_ : List Int) (b : List Int) (r : Bool)
    (hp : Pre X w0 [] [IntsAt A c m a_, IntsAt A2 c2 m2 b]) (H : spec_l09Before.f k a_ b = some r) :
    Calls Try.prog 86 [.slice A m c, .slice A2 m2 c2].toArray w0 (Ret fun v w => v = .bool r ∧ Post X (fps []) w0 [] [] w) := by
  unfold spec_l09Before.f at H
  refine enterM (n := 30) hp Try.func86 rfl rfl (Nat.le_of_ble_eq_true rfl) fun a w ht hm => ?_
  refine wp_seq ?_
  refine wpr ?_
  refine wpl rfl rfl ht (ev_assign ht rfl rfl) ?_
  intro a ht
  refine wpList_nil ?_
  refine then_normal ?_
  refine wp_seq ?_
  refine wp_seq ?_
  refine wpr ?_
  refine wpl rfl rfl ht (ev_assign ht rfl rfl) ?_
  intro a ht
  refine wpList_nil ?_
  refine then_normal ?_
  refine wp_block ?_
  refine wpLoop (fun q a w => ∃ (xs0_1 : Int), spec_l09Before.l0 q a_ b xs0_1 = some r ∧ q ≤ k ∧ Tm 30 [(0, .slice A m c), (1, .slice A2 m2 c2), (4, .bool false), (5, .int .i64 xs0_1)] a ∧ Ms X (fps []) w0 [] [IntsAt A c m a_, IntsAt A2 c2 m2 b] w) (k0 := k) ⟨0, H, Nat.le_refl _, ht.sub ⟨rfl, rfl, rfl, rfl, trivial⟩, (hm.pick [] rfl (by decide)).pickφ [0, 1] rfl⟩ ?_
  clear H ht hm
  intro q1 a w hJ
  obtain ⟨xs0_1, H, hqq1, ht, hm⟩ := hJ
  cases q1 with
  | zero => cases H
  | succ q1 =>
  rw [spec_l09Before.l0] at H
  refine wp_seq ?_
  refine wp_seq ?_
  refine wpr ?_
  refine wpl rfl rfl ht (ev_move ht rfl rfl) ?_
  intro a ht
  refine wpl rfl rfl ht (ev_move ht rfl rfl) ?_
  intro a ht
  refine wpl rfl rfl ht (ev_len_of ht rfl rfl und_22 (hm.fact (φ := IntsAt A c m a_) 0 rfl)) ?_
  intro a ht
  refine wpl rfl rfl ht (ev_cmp ht rfl rfl rfl rfl) ?_
  intro a ht
  refine wpList_nil ?_
  refine then_normal ?_
  by_cases h2 : xs0_1 < (a_.length : Int)
  · replace H := ite_yes h2 H
    refine wpc_yes ht rfl (decide_eq_true h2) ?_
    refine wp_skip ?_
    refine then_normal ?_
    refine wp_seq ?_
    refine wp_block ?_
    refine wp_seq ?_
    refine wph_begin (fun w => Ms X (fps []) w0 [] [IntsAt A c m a_, IntsAt A2 c2 m2 b] w) mixed ?_
    replace hm := hm.drew
    have hS : Ms X (fps []) w0 [] [IntsAt A c m a_, IntsAt A2 c2 m2 b] w.drew := (hm.pick [] rfl (by decide)).pickφ [0, 1] rfl
    generalize w.drew = w at hm hS ⊢
    refine wph_take (i := 0) rfl (by kernel_rfl) (by kernel_rfl) (by kernel_rfl) (fun _ _ _ h => h) rfl ht hS (wanted_plain rfl) (fun w hm => ev_move ht rfl rfl) ?_
    intro a ht
    refine wph_take (i := 1) rfl (by kernel_rfl) (by kernel_rfl) (by kernel_rfl) (fun _ _ _ h => h) rfl ht hS (wanted_plain rfl) (fun w hm => ev_move ht rfl rfl) ?_
    intro a ht
    obtain ⟨t3, et3, H⟩ := bind_get H
    refine wph_take (i := 2) rfl (by kernel_rfl) (by kernel_rfl) (by kernel_rfl) (fun _ _ _ h => h) rfl ht hS (wanted_plain rfl) (fun w hm => ev_index_ints ht rfl rfl rfl so_22 (hm.fact (φ := IntsAt A c m a_) 0 rfl) et3) ?_
    intro a ht
    refine wph_take (i := 3) rfl (by kernel_rfl) (by kernel_rfl) (by kernel_rfl) (fun _ _ _ h => h) rfl ht hS (wanted_plain rfl) (fun w hm => ev_load ht rfl rfl sc_2 (RowAt.cell (hm.fact (φ := IntsAt A c m a_) 0 rfl) (ints_get et3) rfl)) ?_
    intro a ht
    refine wph_take (i := 4) rfl (by kernel_rfl) (by kernel_rfl) (by kernel_rfl) (fun _ _ _ h => h) rfl ht hS (wanted_plain rfl) (fun w hm => ev_move ht rfl rfl) ?_
    intro a ht
    refine wph_take (i := 5) rfl (by kernel_rfl) (by kernel_rfl) (by kernel_rfl) (fun _ _ _ h => h) rfl ht hS (wanted_plain rfl) (fun w hm => ev_move ht rfl rfl) ?_
    intro a ht
    obtain ⟨t4, et4, H⟩ := bind_get H
    refine wph_take (i := 6) rfl (by kernel_rfl) (by kernel_rfl) (by kernel_rfl) (fun _ _ _ h => h) rfl ht hS (wanted_plain rfl) (fun w hm => ev_index_ints ht rfl rfl rfl so_22 (hm.fact (φ := IntsAt A2 c2 m2 b) 1 rfl) et4) ?_
    intro a ht
    refine wph_take (i := 7) rfl (by kernel_rfl) (by kernel_rfl) (by kernel_rfl) (fun _ _ _ h => h) rfl ht hS (wanted_plain rfl) (fun w hm => ev_load ht rfl rfl sc_2 (RowAt.cell (hm.fact (φ := IntsAt A2 c2 m2 b) 1 rfl) (ints_get et4) rfl)) ?_
    intro a ht
    refine wph_take (i := 8) rfl (by kernel_rfl) (by kernel_rfl) (by kernel_rfl) (fun _ _ _ h => h) rfl ht hS (wanted_plain rfl) (fun w hm => ev_cmp ht rfl rfl rfl rfl) ?_
    intro a ht
    refine wph_done (by kernel_rfl) ?_
    refine then_normal ?_
    by_cases h5 : t3 ≠ t4
    · replace H := ite_yes h5 H
      refine wpc_yes ht rfl (decide_eq_true h5) ?_
      refine wp_seq ?_
      refine wph_begin (fun w => Ms X (fps []) w0 [] [IntsAt A c m a_, IntsAt A2 c2 m2 b] w) mixed ?_
      replace hm := hm.drew
      have hS : Ms X (fps []) w0 [] [IntsAt A c m a_, IntsAt A2 c2 m2 b] w.drew := (hm.pick [] rfl (by decide)).pickφ [0, 1] rfl
      generalize w.drew = w at hm hS ⊢
      refine wph_take (i := 0) rfl (by kernel_rfl) (by kernel_rfl) (by kernel_rfl) (fun _ _ _ h => h) rfl ht hS (wanted_plain rfl) (fun w hm => ev_move ht rfl rfl) ?_
      intro a ht
      refine wph_take (i := 1) rfl (by kernel_rfl) (by kernel_rfl) (by kernel_rfl) (fun _ _ _ h => h) rfl ht hS (wanted_plain rfl) (fun w hm => ev_move ht rfl rfl) ?_
      intro a ht
      obtain ⟨t6, et6, H⟩ := bind_get H
      refine wph_take (i := 2) rfl (by kernel_rfl) (by kernel_rfl) (by kernel_rfl) (fun _ _ _ h => h) rfl ht hS (wanted_plain rfl) (fun w hm => ev_index_ints ht rfl rfl rfl so_22 (hm.fact (φ := IntsAt A c m a_) 0 rfl) et6) ?_
      intro a ht
      refine wph_take (i := 3) rfl (by kernel_rfl) (by kernel_rfl) (by kernel_rfl) (fun _ _ _ h => h) rfl ht hS (wanted_plain rfl) (fun w hm => ev_load ht rfl rfl sc_2 (RowAt.cell (hm.fact (φ := IntsAt A c m a_) 0 rfl) (ints_get et6) rfl)) ?_
      intro a ht
      refine wph_take (i := 4) rfl (by kernel_rfl) (by kernel_rfl) (by kernel_rfl) (fun _ _ _ h => h) rfl ht hS (wanted_plain rfl) (fun w hm => ev_move ht rfl rfl) ?_
      intro a ht
      refine wph_take (i := 5) rfl (by kernel_rfl) (by kernel_rfl) (by kernel_rfl) (fun _ _ _ h => h) rfl ht hS (wanted_plain rfl) (fun w hm => ev_move ht rfl rfl) ?_
      intro a ht
      obtain ⟨t7, et7, H⟩ := bind_get H
      refine wph_take (i := 6) rfl (by kernel_rfl) (by kernel_rfl) (by kernel_rfl) (fun _ _ _ h => h) rfl ht hS (wanted_plain rfl) (fun w hm => ev_index_ints ht rfl rfl rfl so_22 (hm.fact (φ := IntsAt A2 c2 m2 b) 1 rfl) et7) ?_
      intro a ht
      refine wph_take (i := 7) rfl (by kernel_rfl) (by kernel_rfl) (by kernel_rfl) (fun _ _ _ h => h) rfl ht hS (wanted_plain rfl) (fun w hm => ev_load ht rfl rfl sc_2 (RowAt.cell (hm.fact (φ := IntsAt A2 c2 m2 b) 1 rfl) (ints_get et7) rfl)) ?_
      intro a ht
      refine wph_take (i := 8) rfl (by kernel_rfl) (by kernel_rfl) (by kernel_rfl) (fun _ _ _ h => h) rfl ht hS (wanted_plain rfl) (fun w hm => ev_cmp ht rfl rfl rfl rfl) ?_
      intro a ht
      refine wph_take (i := 9) rfl (by kernel_rfl) (by kernel_rfl) (by kernel_rfl) (fun _ _ _ h => h) rfl ht hS (wanted_plain rfl) (fun w hm => ev_assign ht rfl rfl) ?_
      intro a ht
      refine wph_done (by kernel_rfl) ?_
      refine then_normal ?_
      refine wp_ret ?_
      refine blk_ret ?_
      refine then_ret ?_
      refine then_ret ?_
      refine blk_ret ?_
      refine then_ret ?_
      have hres := ht.res (P := Try.prog) (w := w) (rs := [.tmp 4]) (vs := [.bool (decide (t6 < t7))]) (.tmp rfl .nil)
      obtain rfl := Option.some.inj H
      exact leave ht rfl hres ⟨rfl, ((hm.pick [] rfl (by decide)).pickφ [] rfl).post fun _ h => h⟩
    · replace H := ite_no h5 H
      refine wpc_no ht rfl (decide_eq_false h5) ?_
      refine wp_skip ?_
      refine blk_normal ?_
      refine then_normal ?_
      refine wpr ?_
      refine wpl rfl rfl ht (ev_move ht rfl rfl) ?_
      intro a ht
      refine wpl rfl rfl ht (ev_arith ht rfl rfl rfl rfl) ?_
      intro a ht
      refine wpl rfl rfl ht (ev_assign ht rfl rfl) ?_
      intro a ht
      refine wpList_nil ?_
      exact then_normal ⟨q1, by omega, (w64 (xs0_1 + 1)), H, by omega, ht.sub ⟨rfl, rfl, rfl, rfl, trivial⟩, (hm.pick [] rfl (by decide)).pickφ [0, 1] rfl⟩
  · replace H := ite_no h2 H
    refine wpc_no ht rfl (decide_eq_false h2) ?_
    refine wp_exit ?_
    refine then_exit ?_
    refine then_exit ?_
    refine blk_hit ?_
    refine then_normal ?_
    refine wp_seq ?_
    refine wpr ?_
    refine wpl rfl rfl ht (ev_assign ht rfl rfl) ?_
    intro a ht
    refine wpList_nil ?_
    refine then_normal ?_
    refine wp_ret ?_
    have hres := ht.res (P := Try.prog) (w := w) (rs := [.tmp 4]) (vs := [.bool false]) (.tmp rfl .nil)
    obtain rfl := Option.some.inj H
    exact leave ht rfl hres ⟨rfl, ((hm.pick [] rfl (by decide)).pickφ [] rfl).post fun _ h => h⟩

/-! ### spec_l09Least: function 65 (loop.example/g01362/spec.l09Least) -/
mutual
def spec_l09Least.l0 : Nat → Int → List Int → List Int → List Int → Int → Option (List Int)
  | 0, _, _, _, _, _ => none
  | q9 + 1, n_, list, begin, ls0_4, xs0_5 => if xs0_5 < n_ then (spec_l09Least.l1 q9 n_ list begin ls0_4 xs0_5 false 0) else (some ls0_4)
def spec_l09Least.l1 : Nat → Int → List Int → List Int → List Int → Int → Bool → Int → Option (List Int)
  | 0, _, _, _, _, _, _, _ => none
  | q11 + 1, n_, list, begin, ls0_4, xs0_5, bs1_1, xs1_2 => if xs1_2 < (begin.length : Int) then (if bs1_1 = true then (spec_l09Least.l1 q11 n_ list begin ls0_4 xs0_5 true (w64 (xs1_2 + 1))) else ((getI begin xs1_2).bind fun t14 => spec_l09Least.l1 q11 n_ list begin ls0_4 xs0_5 (decide (t14 = xs0_5)) (w64 (xs1_2 + 1)))) else (if bs1_1 = true then (spec_l09Least.l0 q11 n_ list begin ls0_4 (w64 (xs0_5 + 1))) else ((spec_l01Own.f begin).bind fun t16 => (push t16 xs0_5).bind fun l24 => (spec_l09Least.f q11 n_ list l24 ls0_4).bind fun t25 => spec_l09Least.l0 q11 n_ list begin t25 (w64 (xs0_5 + 1))))
def spec_l09Least.f : Nat → Int → List Int → List Int → List Int → Option (List Int)
  | 0, _, _, _, _ => none
  | k + 1, n_, list, begin, best => if (begin.length : Int) = n_ then ((spec_l09Renumbered.f k n_ list begin).bind fun t2 => (spec_l09Before.f k t2 best).bind fun t7 => if t7 = true then (some t2) else (some best)) else (spec_l09Least.l0 k n_ list begin best 0)
end
set_option maxRecDepth 100000 in
set_option maxHeartbeats 1000000 in
theorem spec_l09Least.calls (k : Nat) (X : List Nat) (w0 : World) (A : Option Addr) (c : Nat) (m : Nat) (A2 : Option Addr) (c2 : Nat) (m2 : Nat) (A3 : Option Addr) (c3 : Nat) (m3 : Nat) (n_ : Int) (list : List Int) (begin : List Int) (best : List Int) (r : List Int)
    (hp : Pre X w0 [] [IntsAt A c m list, IntsAt A2 c2 m2 begin, IntsAt A3 c3 m3 best]) (H : spec_l09Least.f k n_ list begin best = some r) :
    Calls Try.prog 65 [.int .i64 n_, .slice A m c, .slice A2 m2 c2, .slice A3 m3 c3].toArray w0 (Ret fun v w => ∃ (A_0 : Option Addr) (c_0 : Nat) (n_0 : Nat), v = .slice A_0 n_0 c_0 ∧ Post X (fps []) w0 [] [IntsAt A_0 c_0 n_0 r] w) := by
  induction k using Nat.strongRecOn generalizing X w0 A c m A2 c2 m2 A3 c3 m3 n_ list begin best r with
  | _ k ih =>
  cases k with
  | zero => cases H
  | succ k =>
  rw [spec_l09Least.f] at H
  refine enterM (n := 58) hp Try.func65 rfl rfl (Nat.le_of_ble_eq_true rfl) fun a w ht hm => ?_
  induction k using Nat.strongRecOn with
  | _ k ih =>
  refine wp_seq ?_
  refine wpr ?_
  refine wpl rfl rfl ht (ev_assign ht rfl rfl) ?_
  intro a ht
  refine wpList_nil ?_
  refine then_normal ?_
  refine wp_seq ?_
  refine wp_seq ?_
  refine wpr ?_
  refine wpl rfl rfl ht (ev_move ht rfl rfl) ?_
  intro a ht
  refine wpl rfl rfl ht (ev_len_of ht rfl rfl und_22 (hm.fact (φ := IntsAt A2 c2 m2 begin) 1 rfl)) ?_
  intro a ht
  refine wpl rfl rfl ht (ev_move ht rfl rfl) ?_
  intro a ht
  refine wpl rfl rfl ht (ev_cmp ht rfl rfl rfl rfl) ?_
  intro a ht
  refine wpList_nil ?_
  refine then_normal ?_
  by_cases h1 : (begin.length : Int) = n_
  · replace H := ite_yes h1 H
    refine wpc_yes ht rfl (decide_eq_true h1) ?_
    refine wp_seq ?_
    refine wp_seq ?_
    refine wpr ?_
    refine wpl rfl rfl ht (ev_move ht rfl rfl) ?_
    intro a ht
    refine wpl rfl rfl ht (ev_move ht rfl rfl) ?_
    intro a ht
    refine wpl rfl rfl ht (ev_move ht rfl rfl) ?_
    intro a ht
    obtain ⟨t2, et2, H⟩ := bind_get H
    have hcall := spec_l09Renumbered.calls k _ _ A c m A2 c2 m2 n_ list begin _ ((fun (hq : Ms _ _ _ ([] ++ []) _ _) => hq.lend (φp := [IntsAt A c m list, IntsAt A2 c2 m2 begin]) (allRO_cons (hq.lendFact 0 rfl) (allRO_cons (hq.lendFact 1 rfl) (allRO_nil)))) (hm.pick (own' := [] ++ []) [] rfl (by decide))) et2
    refine wpl_call _ rfl rfl ht rfl rfl rfl rfl can_85 hcall ?_
    clear hcall
    rintro _ w ⟨A4, c5, m6, rfl, hpost⟩ a ht
    replace hm := (hm.pick (own' := [] ++ []) [] rfl (by decide)).backL hpost
    clear hpost
    refine wpl rfl rfl ht (ev_assign ht rfl rfl) ?_
    intro a ht
    refine wpList_nil ?_
    refine then_normal ?_
    refine wp_seq ?_
    refine wpr ?_
    refine wpl rfl rfl ht (ev_move ht rfl rfl) ?_
    intro a ht
    refine wpl rfl rfl ht (ev_move ht rfl rfl) ?_
    intro a ht
    obtain ⟨t7, et7, H⟩ := bind_get H
    have hcall := spec_l09Before.calls k _ _ A4 c5 m6 A3 c3 m3 t2 best _ ((fun (hq : Ms _ _ _ ([] ++ [.vec A4 c5 2 1 m6 (ints t2)]) _ _) => hq.lend (φp := [IntsAt A4 c5 m6 t2, IntsAt A3 c3 m3 best]) (allRO_cons (hq.lendVec 0 rfl) (allRO_cons (hq.lendFact 2 rfl) (allRO_nil)))) (hm.pick (own' := [] ++ [.vec A4 c5 2 1 m6 (ints t2)]) [0] rfl (by decide))) et7
    refine wpl_call _ rfl rfl ht rfl rfl rfl rfl can_86 hcall ?_
    clear hcall
    rintro _ w ⟨rfl, hpost⟩ a ht
    replace hm := (hm.pick (own' := [] ++ [.vec A4 c5 2 1 m6 (ints t2)]) [0] rfl (by decide)).backL hpost
    clear hpost
    refine wpList_nil ?_
    refine then_normal ?_
    by_cases h8 : t7 = true
    · replace H := ite_yes h8 H
      refine wpc_yes ht rfl h8 ?_
      refine wp_seq ?_
      refine wpr ?_
      refine wpl rfl rfl ht (ev_move ht rfl rfl) ?_
      intro a ht
      refine wpl rfl rfl ht (ev_assign ht rfl rfl) ?_
      intro a ht
      refine wpList_nil ?_
      refine then_normal ?_
      refine wp_ret ?_
      refine then_ret ?_
      refine then_ret ?_
      have hres := ht.res (P := Try.prog) (w := w) (rs := [.tmp 8]) (vs := [.slice A4 m6 c5]) (.tmp rfl .nil)
      replace hm : Ms _ _ _ _ (IntsAt A4 c5 m6 t2 :: _) w := hm.shutVec 0 rfl
      obtain rfl := Option.some.inj H
      exact leave ht rfl hres ⟨A4, c5, m6, rfl, ((hm.pick [] rfl (by decide)).pickφ [0] rfl).post fun _ h => h⟩
    · replace H := ite_no h8 H
      refine wpc_no ht rfl (Bool.eq_false_iff.mpr h8) ?_
      refine wp_skip ?_
      refine then_normal ?_
      refine wp_seq ?_
      refine wpr ?_
      refine wpl rfl rfl ht (ev_move ht rfl rfl) ?_
      intro a ht
      refine wpl rfl rfl ht (ev_assign ht rfl rfl) ?_
      intro a ht
      refine wpList_nil ?_
      refine then_normal ?_
      refine wp_ret ?_
      refine then_ret ?_
      have hres := ht.res (P := Try.prog) (w := w) (rs := [.tmp 8]) (vs := [.slice A3 m3 c3]) (.tmp rfl .nil)
      obtain rfl := Option.some.inj H
      exact leave ht rfl hres ⟨A3, c3, m3, rfl, ((hm.pick [] rfl (by decide)).pickφ [2] rfl).post fun _ h => h⟩
  · replace H := ite_no h1 H
    refine wpc_no ht rfl (decide_eq_false h1) ?_
    refine wp_skip ?_
    refine then_normal ?_
    refine wp_seq ?_
    refine wp_seq ?_
    refine wpr ?_
    refine wpl rfl rfl ht (ev_assign ht rfl rfl) ?_
    intro a ht
    refine wpList_nil ?_
    refine then_normal ?_
    refine wp_block ?_
    refine wpLoop (fun q a w => ∃ (ls0_4 : List Int) (xs0_5 : Int) (As0_1 : Option Addr) (cs0_2 : Nat) (ms0_3 : Nat), spec_l09Least.l0 q n_ list begin ls0_4 xs0_5 = some r ∧ q ≤ k ∧ Tm 58 [(0, .int .i64 n_), (1, .slice A m c), (2, .slice A2 m2 c2), (8, .slice none 0 0), (3, .slice As0_1 ms0_3 cs0_2), (10, .int .i64 xs0_5)] a ∧ Ms X (fps []) w0 [] [IntsAt A c m list, IntsAt A2 c2 m2 begin, IntsAt As0_1 cs0_2 ms0_3 ls0_4, IntsAt A3 c3 m3 best] w) (k0 := k) ⟨best, 0, A3, c3, m3, H, Nat.le_refl _, ht.sub ⟨rfl, rfl, rfl, rfl, rfl, rfl, trivial⟩, (hm.pick [] rfl (by decide)).pickφ [0, 1, 2, 2] rfl⟩ ?_
    clear H ht hm
    intro q9 a w hJ
    obtain ⟨ls0_4, xs0_5, As0_1, cs0_2, ms0_3, H, hqq9, ht, hm⟩ := hJ
    cases q9 with
    | zero => cases H
    | succ q9 =>
    rw [spec_l09Least.l0] at H
    refine wp_seq ?_
    refine wp_seq ?_
    refine wpr ?_
    refine wpl rfl rfl ht (ev_move ht rfl rfl) ?_
    intro a ht
    refine wpl rfl rfl ht (ev_move ht rfl rfl) ?_
    intro a ht
    refine wpl rfl rfl ht (ev_cmp ht rfl rfl rfl rfl) ?_
    intro a ht
    refine wpList_nil ?_
    refine then_normal ?_
    by_cases h10 : xs0_5 < n_
    · replace H := ite_yes h10 H
      refine wpc_yes ht rfl (decide_eq_true h10) ?_
      refine wp_skip ?_
      refine then_normal ?_
      refine wp_seq ?_
      refine wp_block ?_
      refine wp_seq ?_
      refine wpr ?_
      refine wpl rfl rfl ht (ev_assign ht rfl rfl) ?_
      intro a ht
      refine wpList_nil ?_
      refine then_normal ?_
      refine wp_seq ?_
      refine wp_seq ?_
      refine wpr ?_
      refine wpl rfl rfl ht (ev_assign ht rfl rfl) ?_
      intro a ht
      refine wpList_nil ?_
      refine then_normal ?_
      refine wp_block ?_
      refine wpLoop (fun q a w => ∃ (bs1_1 : Bool) (xs1_2 : Int), spec_l09Least.l1 q n_ list begin ls0_4 xs0_5 bs1_1 xs1_2 = some r ∧ q ≤ q9 ∧ Tm 58 [(0, .int .i64 n_), (1, .slice A m c), (2, .slice A2 m2 c2), (3, .slice As0_1 ms0_3 cs0_2), (8, .slice none 0 0), (10, .int .i64 xs0_5), (26, .int .i64 xs0_5), (27, .int .i64 n_), (28, .bool (decide (xs0_5 < n_))), (11, .bool bs1_1), (12, .int .i64 xs1_2)] a ∧ Ms X (fps []) w0 [] [IntsAt A c m list, IntsAt A2 c2 m2 begin, IntsAt As0_1 cs0_2 ms0_3 ls0_4, IntsAt A3 c3 m3 best] w) (k0 := q9) ⟨false, 0, H, Nat.le_refl _, ht.sub ⟨rfl, rfl, rfl, rfl, rfl, rfl, rfl, rfl, rfl, rfl, rfl, trivial⟩, (hm.pick [] rfl (by decide)).pickφ [0, 1, 2, 3] rfl⟩ ?_
      clear H ht hm
      intro q11 a w hJ
      obtain ⟨bs1_1, xs1_2, H, hqq11, ht, hm⟩ := hJ
      cases q11 with
      | zero => cases H
      | succ q11 =>
      rw [spec_l09Least.l1] at H
      refine wp_seq ?_
      refine wp_seq ?_
      refine wpr ?_
      refine wpl rfl rfl ht (ev_move ht rfl rfl) ?_
      intro a ht
      refine wpl rfl rfl ht (ev_move ht rfl rfl) ?_
      intro a ht
      refine wpl rfl rfl ht (ev_len_of ht rfl rfl und_22 (hm.fact (φ := IntsAt A2 c2 m2 begin) 1 rfl)) ?_
      intro a ht
      refine wpl rfl rfl ht (ev_cmp ht rfl rfl rfl rfl) ?_
      intro a ht
      refine wpList_nil ?_
      refine then_normal ?_
      by_cases h12 : xs1_2 < (begin.length : Int)
      · replace H := ite_yes h12 H
        refine wpc_yes ht rfl (decide_eq_true h12) ?_
        refine wp_skip ?_
        refine then_normal ?_
        refine wp_seq ?_
        refine wp_block ?_
        refine wpr ?_
        refine wpl rfl rfl ht (ev_move ht rfl rfl) ?_
        intro a ht
        refine wpl rfl rfl ht (ev_move ht rfl rfl) ?_
        intro a ht
        by_cases h13 : bs1_1 = true
        · replace H := ite_yes h13 H
          refine wpl_no rfl rfl ht rfl (by rw [h13]; decide) ?_
          intro a ht
          refine wpl_no rfl rfl ht rfl (by rw [h13]; decide) ?_
          intro a ht
          refine wpl_no rfl rfl ht rfl (by rw [h13]; decide) ?_
          intro a ht
          refine wpl_no rfl rfl ht rfl (by rw [h13]; decide) ?_
          intro a ht
          refine wpl_no rfl rfl ht rfl (by rw [h13]; decide) ?_
          intro a ht
          refine wpl_no rfl rfl ht rfl (by rw [h13]; decide) ?_
          intro a ht
          refine wpl rfl rfl ht (ev_pick_yes ht rfl rfl h13 rfl) ?_
          intro a ht
          refine wpl rfl rfl ht (ev_assign ht rfl rfl) ?_
          intro a ht
          refine wpList_nil ?_
          refine blk_normal ?_
          refine then_normal ?_
          refine wpr ?_
          refine wpl rfl rfl ht (ev_move ht rfl rfl) ?_
          intro a ht
          refine wpl rfl rfl ht (ev_arith ht rfl rfl rfl rfl) ?_
          intro a ht
          refine wpl rfl rfl ht (ev_assign ht rfl rfl) ?_
          intro a ht
          refine wpList_nil ?_
          exact then_normal ⟨q11, by omega, true, (w64 (xs1_2 + 1)), H, by omega, ht.sub ⟨rfl, rfl, rfl, rfl, rfl, rfl, rfl, rfl, rfl, rfl, rfl, trivial⟩, (hm.pick [] rfl (by decide)).pickφ [0, 1, 2, 3] rfl⟩
        · replace H := ite_no h13 H
          refine wpl_yes rfl ht rfl ((Bool.eq_false_iff.mpr h13)) ?_
          refine wpl rfl rfl ht (ev_move ht rfl rfl) ?_
          intro a ht
          refine wpl_yes rfl ht rfl ((Bool.eq_false_iff.mpr h13)) ?_
          refine wpl rfl rfl ht (ev_move ht rfl rfl) ?_
          intro a ht
          refine wpl_yes rfl ht rfl ((Bool.eq_false_iff.mpr h13)) ?_
          obtain ⟨t14, et14, H⟩ := bind_get H
          refine wpl rfl rfl ht (ev_index_ints ht rfl rfl rfl so_22 (hm.fact (φ := IntsAt A2 c2 m2 begin) 1 rfl) et14) ?_
          intro a ht
          refine wpl_yes rfl ht rfl ((Bool.eq_false_iff.mpr h13)) ?_
          refine wpl rfl rfl ht (ev_load ht rfl rfl sc_2 (RowAt.cell (hm.fact (φ := IntsAt A2 c2 m2 begin) 1 rfl) (ints_get et14) rfl)) ?_
          intro a ht
          refine wpl_yes rfl ht rfl ((Bool.eq_false_iff.mpr h13)) ?_
          refine wpl rfl rfl ht (ev_move ht rfl rfl) ?_
          intro a ht
          refine wpl_yes rfl ht rfl ((Bool.eq_false_iff.mpr h13)) ?_
          refine wpl rfl rfl ht (ev_cmp ht rfl rfl rfl rfl) ?_
          intro a ht
          refine wpl rfl rfl ht (ev_pick_no ht rfl rfl (Bool.eq_false_iff.mpr h13) rfl) ?_
          intro a ht
          refine wpl rfl rfl ht (ev_assign ht rfl rfl) ?_
          intro a ht
          refine wpList_nil ?_
          refine blk_normal ?_
          refine then_normal ?_
          refine wpr ?_
          refine wpl rfl rfl ht (ev_move ht rfl rfl) ?_
          intro a ht
          refine wpl rfl rfl ht (ev_arith ht rfl rfl rfl rfl) ?_
          intro a ht
          refine wpl rfl rfl ht (ev_assign ht rfl rfl) ?_
          intro a ht
          refine wpList_nil ?_
          exact then_normal ⟨q11, by omega, (decide (t14 = xs0_5)), (w64 (xs1_2 + 1)), H, by omega, ht.sub ⟨rfl, rfl, rfl, rfl, rfl, rfl, rfl, rfl, rfl, rfl, rfl, trivial⟩, (hm.pick [] rfl (by decide)).pickφ [0, 1, 2, 3] rfl⟩
      · replace H := ite_no h12 H
        refine wpc_no ht rfl (decide_eq_false h12) ?_
        refine wp_exit ?_
        refine then_exit ?_
        refine then_exit ?_
        refine blk_hit ?_
        refine then_normal ?_
        refine wp_seq ?_
        refine wpr ?_
        refine wpl rfl rfl ht (ev_move ht rfl rfl) ?_
        intro a ht
        refine wpl rfl rfl ht (ev_not ht rfl rfl) ?_
        intro a ht
        refine wpList_nil ?_
        refine then_normal ?_
        by_cases h15 : bs1_1 = true
        · replace H := ite_yes h15 H
          refine wpc_no ht rfl (not_t h15) ?_
          refine wp_skip ?_
          refine blk_normal ?_
          refine then_normal ?_
          refine wpr ?_
          refine wpl rfl rfl ht (ev_move ht rfl rfl) ?_
          intro a ht
          refine wpl rfl rfl ht (ev_arith ht rfl rfl rfl rfl) ?_
          intro a ht
          refine wpl rfl rfl ht (ev_assign ht rfl rfl) ?_
          intro a ht
          refine wpList_nil ?_
          exact then_normal ⟨q11, by omega, ls0_4, (w64 (xs0_5 + 1)), As0_1, cs0_2, ms0_3, H, by omega, ht.sub ⟨rfl, rfl, rfl, rfl, rfl, rfl, trivial⟩, (hm.pick [] rfl (by decide)).pickφ [0, 1, 2, 3] rfl⟩
        · replace H := ite_no h15 H
          refine wpc_yes ht rfl (not_f (Bool.eq_false_iff.mpr h15)) ?_
          refine wpr ?_
          refine wpl rfl rfl ht (ev_move ht rfl rfl) ?_
          intro a ht
          refine wpl rfl rfl ht (ev_move ht rfl rfl) ?_
          intro a ht
          refine wpl rfl rfl ht (ev_move ht rfl rfl) ?_
          intro a ht
          obtain ⟨t16, et16, H⟩ := bind_get H
          have hcall := spec_l01Own.calls _ _ A2 c2 m2 begin _ ((fun (hq : Ms _ _ _ ([] ++ []) _ _) => hq.lend (φp := [IntsAt A2 c2 m2 begin]) (allRO_cons (hq.lendFact 1 rfl) (allRO_nil))) (hm.pick (own' := [] ++ []) [] rfl (by decide))) et16
          refine wpl_call _ rfl rfl ht rfl rfl rfl rfl can_66 hcall ?_
          clear hcall
          rintro _ w ⟨A17, c18, m19, rfl, hpost⟩ a ht
          replace hm := (hm.pick (own' := [] ++ []) [] rfl (by decide)).backL hpost
          clear hpost
          refine wpl rfl rfl ht (ev_move ht rfl rfl) ?_
          intro a ht
          refine wpl_build_ints (l := [xs0_5]) rfl rfl ht hm rfl und_22 zo_2 sz1_2 (by decide) rfl rfl rfl ?_
          intro A20 a ht w hm
          obtain ⟨l24, el24, H⟩ := bind_get H
          refine wpl_push (r := l24) 1 0 rfl rfl ht hm rfl ap_22 rfl rfl rfl rfl el24 ?_
          intro A21 c22 m23 a ht w hm
          refine wpl rfl rfl ht (ev_move ht rfl rfl) ?_
          intro a ht
          replace hm : Ms _ _ _ _ (IntsAt A21 c22 m23 l24 :: _) w := hm.shutVec 1 rfl
          obtain ⟨t25, et25, H⟩ := bind_get H
          have hcall := ih q11 (by omega) _ _ A c m A21 c22 m23 As0_1 cs0_2 ms0_3 n_ list l24 ls0_4 _ ((hm.pick (own' := [] ++ [.vec A20 1 2 1 1 (ints ([xs0_5]))]) [0] rfl (by decide)).give (passed := []) (rest := [.vec A20 1 2 1 1 (ints ([xs0_5]))]) (φp := [IntsAt A c m list, IntsAt A21 c22 m23 l24, IntsAt As0_1 cs0_2 ms0_3 ls0_4]) [1, 0, 3] rfl) et25
          refine wpl_call _ rfl rfl ht rfl rfl rfl rfl can_65 hcall ?_
          clear hcall
          rintro _ w ⟨A26, c27, m28, rfl, hpost⟩ a ht
          replace hm := (hm.pick (own' := [] ++ [.vec A20 1 2 1 1 (ints ([xs0_5]))]) [0] rfl (by decide)).back hpost
          clear hpost
          refine wpl rfl rfl ht (ev_assign ht rfl rfl) ?_
          intro a ht
          refine wpList_nil ?_
          refine blk_normal ?_
          refine then_normal ?_
          refine wpr ?_
          refine wpl rfl rfl ht (ev_move ht rfl rfl) ?_
          intro a ht
          refine wpl rfl rfl ht (ev_arith ht rfl rfl rfl rfl) ?_
          intro a ht
          refine wpl rfl rfl ht (ev_assign ht rfl rfl) ?_
          intro a ht
          refine wpList_nil ?_
          exact then_normal ⟨q11, by omega, t25, (w64 (xs0_5 + 1)), A26, c27, m28, H, by omega, ht.sub ⟨rfl, rfl, rfl, rfl, rfl, rfl, trivial⟩, (hm.pick [] rfl (by decide)).pickφ [2, 3, 0, 5] rfl⟩
    · replace H := ite_no h10 H
      refine wpc_no ht rfl (decide_eq_false h10) ?_
      refine wp_exit ?_
      refine then_exit ?_
      refine then_exit ?_
      refine blk_hit ?_
      refine then_normal ?_
      refine wp_seq ?_
      refine wpr ?_
      refine wpl rfl rfl ht (ev_move ht rfl rfl) ?_
      intro a ht
      refine wpl rfl rfl ht (ev_assign ht rfl rfl) ?_
      intro a ht
      refine wpList_nil ?_
      refine then_normal ?_
      refine wp_ret ?_
      have hres := ht.res (P := Try.prog) (w := w) (rs := [.tmp 8]) (vs := [.slice As0_1 ms0_3 cs0_2]) (.tmp rfl .nil)
      obtain rfl := Option.some.inj H
      exact leave ht rfl hres ⟨As0_1, cs0_2, ms0_3, rfl, ((hm.pick [] rfl (by decide)).pickφ [2] rfl).post fun _ h => h⟩

/-! ### spec_LeastPosition: function 33 (loop.example/g01362/spec.LeastPosition) -/
def spec_LeastPosition.f (k : Nat) (n_ : Int) (list : List Int) : Option (List Int × Int) := (spec_l09Code.f k n_ list).bind fun t1 => if t1 ≠ 0 then (some (([] : List Int), t1)) else ((spec_l01Own.f list).bind fun t5 => (spec_l09Least.f k n_ list ([] : List Int) t5).bind fun t9 => some (t9, 0))
set_option maxRecDepth 100000 in
set_option maxHeartbeats 1000000 in
theorem spec_LeastPosition.calls (k : Nat) (X : List Nat) (w0 : World) (A : Option Addr) (c : Nat) (m : Nat) (n_ : Int) (list : List Int) (r : List Int × Int)
    (hp : Pre X w0 [] [IntsAt A c m list]) (H : spec_LeastPosition.f k n_ list = some r) :
    Calls Try.prog 33 [.int .i64 n_, .slice A m c].toArray w0 (Ret fun v w => ∃ (A_0 : Option Addr) (c_0 : Nat) (n_0 : Nat), v = .tuple [.slice A_0 n_0 c_0, .int .i64 r.2].toArray ∧ Post X (fps []) w0 [] [IntsAt A_0 c_0 n_0 r.1] w) := by
  unfold spec_LeastPosition.f at H
  refine enterM (n := 19) hp Try.func33 rfl rfl (Nat.le_of_ble_eq_true rfl) fun a w ht hm => ?_
  refine wp_seq ?_
  refine wpr ?_
  refine wpl rfl rfl ht (ev_assign ht rfl rfl) ?_
  intro a ht
  refine wpl rfl rfl ht (ev_assign ht rfl rfl) ?_
  intro a ht
  refine wpList_nil ?_
  refine then_normal ?_
  refine wp_seq ?_
  refine wp_seq ?_
  refine wpr ?_
  refine wpl rfl rfl ht (ev_move ht rfl rfl) ?_
  intro a ht
  refine wpl rfl rfl ht (ev_move ht rfl rfl) ?_
  intro a ht
  obtain ⟨t1, et1, H⟩ := bind_get H
  have hcall := spec_l09Code.calls k _ _ A c m n_ list _ ((fun (hq : Ms _ _ _ ([] ++ []) _ _) => hq.lend (φp := [IntsAt A c m list]) (allRO_cons (hq.lendFact 0 rfl) (allRO_nil))) (hm.pick (own' := [] ++ []) [] rfl (by decide))) et1
  refine wpl_call _ rfl rfl ht rfl rfl rfl rfl can_41 hcall ?_
  clear hcall
  rintro _ w ⟨rfl, hpost⟩ a ht
  replace hm := (hm.pick (own' := [] ++ []) [] rfl (by decide)).backL hpost
  clear hpost
  refine wpl rfl rfl ht (ev_assign ht rfl rfl) ?_
  intro a ht
  refine wpList_nil ?_
  refine then_normal ?_
  refine wp_seq ?_
  refine wpr ?_
  refine wpl rfl rfl ht (ev_move ht rfl rfl) ?_
  intro a ht
  refine wpl rfl rfl ht (ev_cmp ht rfl rfl rfl rfl) ?_
  intro a ht
  refine wpList_nil ?_
  refine then_normal ?_
  by_cases h2 : t1 ≠ 0
  · replace H := ite_yes h2 H
    refine wpc_yes ht rfl (decide_eq_true h2) ?_
    refine wp_seq ?_
    refine wpr ?_
    refine wpl rfl rfl ht (ev_move ht rfl rfl) ?_
    intro a ht
    refine wpl rfl rfl ht (ev_assign ht rfl rfl) ?_
    intro a ht
    refine wpl rfl rfl ht (ev_assign ht rfl rfl) ?_
    intro a ht
    refine wpList_nil ?_
    refine then_normal ?_
    refine wp_ret ?_
    refine then_ret ?_
    have hres := ht.res (P := Try.prog) (w := w) (rs := [.tmp 4, .tmp 5]) (vs := [.slice none 0 0, .int .i64 t1]) (.tmp rfl (.tmp rfl .nil))
    replace hm : Ms _ _ _ _ (IntsAt none 0 0 ([] : List Int) :: _) w := hm.nilRow none 1
    obtain rfl := Option.some.inj H
    exact leave ht rfl hres ⟨none, 0, 0, rfl, ((hm.pick [] rfl (by decide)).pickφ [0] rfl).post fun _ h => h⟩
  · replace H := ite_no h2 H
    refine wpc_no ht rfl (decide_eq_false h2) ?_
    refine wp_skip ?_
    refine then_normal ?_
    refine wp_seq ?_
    refine wpr ?_
    refine wpl rfl rfl ht (ev_move ht rfl rfl) ?_
    intro a ht
    refine wpl rfl rfl ht (ev_move ht rfl rfl) ?_
    intro a ht
    refine wpl_build_ints (l := ([] : List Int)) rfl rfl ht hm rfl und_22 zo_2 sz1_2 (by decide) rfl rfl rfl ?_
    intro A4 a ht w hm
    refine wpl rfl rfl ht (ev_move ht rfl rfl) ?_
    intro a ht
    obtain ⟨t5, et5, H⟩ := bind_get H
    have hcall := spec_l01Own.calls _ _ A c m list _ ((fun (hq : Ms _ _ _ ([] ++ [.vec A4 0 2 1 0 (ints ([] : List Int))]) _ _) => hq.lend (φp := [IntsAt A c m list]) (allRO_cons (hq.lendFact 0 rfl) (allRO_nil))) (hm.pick (own' := [] ++ [.vec A4 0 2 1 0 (ints ([] : List Int))]) [0] rfl (by decide))) et5
    refine wpl_call _ rfl rfl ht rfl rfl rfl rfl can_66 hcall ?_
    clear hcall
    rintro _ w ⟨A6, c7, m8, rfl, hpost⟩ a ht
    replace hm := (hm.pick (own' := [] ++ [.vec A4 0 2 1 0 (ints ([] : List Int))]) [0] rfl (by decide)).backL hpost
    clear hpost
    replace hm : Ms _ _ _ _ (IntsAt A4 0 0 ([] : List Int) :: _) w := hm.shutVec 1 rfl
    replace hm : Ms _ _ _ _ (IntsAt A6 c7 m8 t5 :: _) w := hm.shutVec 0 rfl
    obtain ⟨t9, et9, H⟩ := bind_get H
    have hcall := spec_l09Least.calls k _ _ A c m A4 0 0 A6 c7 m8 n_ list ([] : List Int) t5 _ ((hm.pick (own' := [] ++ []) [] rfl (by decide)).give (passed := []) (rest := []) (φp := [IntsAt A c m list, IntsAt A4 0 0 ([] : List Int), IntsAt A6 c7 m8 t5]) [2, 1, 0] rfl) et9
    refine wpl_call _ rfl rfl ht rfl rfl rfl rfl can_65 hcall ?_
    clear hcall
    rintro _ w ⟨A10, c11, m12, rfl, hpost⟩ a ht
    replace hm := (hm.pick (own' := [] ++ []) [] rfl (by decide)).back hpost
    clear hpost
    refine wpl rfl rfl ht (ev_assign ht rfl rfl) ?_
    intro a ht
    refine wpl rfl rfl ht (ev_assign ht rfl rfl) ?_
    intro a ht
    refine wpList_nil ?_
    refine then_normal ?_
    refine wp_ret ?_
    have hres := ht.res (P := Try.prog) (w := w) (rs := [.tmp 4, .tmp 5]) (vs := [.slice A10 m12 c11, .int .i64 0]) (.tmp rfl (.tmp rfl .nil))
    obtain rfl := Option.some.inj H
    exact leave ht rfl hres ⟨A10, c11, m12, rfl, ((hm.pick [] rfl (by decide)).pickφ [0] rfl).post fun _ h => h⟩

/-! ### impl_in: function 58 (loop.example/g01362/impl.in) -/
def impl_in.f (n_ : Int) (low : Int) (high : Int) : Option (Bool) := if n_ ≥ low then (some (decide (n_ ≤ high))) else (some false)
set_option maxRecDepth 100000 in
set_option maxHeartbeats 1000000 in
theorem impl_in.calls (X : List Nat) (w0 : World)  (n_ : Int) (low : Int) (high : Int) (r : Bool)
    (hp : Pre X w0 [] []) (H : impl_in.f n_ low high = some r) :
    Calls Try.prog 58 [.int .i64 n_, .int .i64 low, .int .i64 high].toArray w0 (Ret fun v w => v = .bool r ∧ Post X (fps []) w0 [] [] w) := by
  unfold impl_in.f at H
  refine enterM (n := 15) hp Try.func58 rfl rfl (Nat.le_of_ble_eq_true rfl) fun a w ht hm => ?_
  refine wp_seq ?_
  refine wpr ?_
  refine wpl rfl rfl ht (ev_assign ht rfl rfl) ?_
  intro a ht
  refine wpList_nil ?_
  refine then_normal ?_
  refine wp_seq ?_
  refine wpr ?_
  refine wpl rfl rfl ht (ev_move ht rfl rfl) ?_
  intro a ht
  refine wpl rfl rfl ht (ev_move ht rfl rfl) ?_
  intro a ht
  refine wpl rfl rfl ht (ev_cmp ht rfl rfl rfl rfl) ?_
  intro a ht
  refine wpl rfl rfl ht (ev_move ht rfl rfl) ?_
  intro a ht
  by_cases h1 : n_ ≥ low
  · replace H := ite_yes h1 H
    refine wpl_yes rfl ht rfl ((decide_eq_true h1)) ?_
    refine wpl rfl rfl ht (ev_move ht rfl rfl) ?_
    intro a ht
    refine wpl_yes rfl ht rfl ((decide_eq_true h1)) ?_
    refine wpl rfl rfl ht (ev_move ht rfl rfl) ?_
    intro a ht
    refine wpl_yes rfl ht rfl ((decide_eq_true h1)) ?_
    refine wpl rfl rfl ht (ev_cmp ht rfl rfl rfl rfl) ?_
    intro a ht
    refine wpl rfl rfl ht (ev_pick_yes ht rfl rfl (decide_eq_true h1) rfl) ?_
    intro a ht
    refine wpl rfl rfl ht (ev_assign ht rfl rfl) ?_
    intro a ht
    refine wpList_nil ?_
    refine then_normal ?_
    refine wp_ret ?_
    have hres := ht.res (P := Try.prog) (w := w) (rs := [.tmp 6]) (vs := [.bool (decide (n_ ≤ high))]) (.tmp rfl .nil)
    obtain rfl := Option.some.inj H
    exact leave ht rfl hres ⟨rfl, ((hm.pick [] rfl (by decide)).pickφ [] rfl).post fun _ h => h⟩
  · replace H := ite_no h1 H
    refine wpl_no rfl rfl ht rfl (by rw [(decide_eq_false h1)]; decide) ?_
    intro a ht
    refine wpl_no rfl rfl ht rfl (by rw [(decide_eq_false h1)]; decide) ?_
    intro a ht
    refine wpl_no rfl rfl ht rfl (by rw [(decide_eq_false h1)]; decide) ?_
    intro a ht
    refine wpl rfl rfl ht (ev_pick_no ht rfl rfl (decide_eq_false h1) rfl) ?_
    intro a ht
    refine wpl rfl rfl ht (ev_assign ht rfl rfl) ?_
    intro a ht
    refine wpList_nil ?_
    refine then_normal ?_
    refine wp_ret ?_
    have hres := ht.res (P := Try.prog) (w := w) (rs := [.tmp 6]) (vs := [.bool false]) (.tmp rfl .nil)
    obtain rfl := Option.some.inj H
    exact leave ht rfl hres ⟨rfl, ((hm.pick [] rfl (by decide)).pickφ [] rfl).post fun _ h => h⟩

end Go.Proofs.Ytfbdcidedjocdaa.G
