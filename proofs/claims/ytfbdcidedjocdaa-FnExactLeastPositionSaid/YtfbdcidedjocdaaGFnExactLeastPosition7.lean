/- What each Go function computes, as a Lean function, and the proof that it does: written by a program of this session (wip/gen), part 7. -/
import Derived.Test.YtfbdcidedjocdaaGFnExactLeastPosition6
namespace Go.Proofs.Ytfbdcidedjocdaa.G
open Go Go.RowKit Go.Proofs.Ytfbdcidedjocdaa.K
set_option linter.unusedVariables false
set_option linter.unusedSimpArgs false

/-! ### impl_position_renumbered: function 69 ((loop.example/g01362/impl.position).renumbered) -/
mutual
def impl_position_renumbered.l0 : Nat → Int → List Int → List Int → List Int → Int → Option (List Int)
  | 0, _, _, _, _, _ => none
  | q7 + 1, p, p2, to, ls0_1, xs0_2 => if xs0_2 < p then (impl_position_renumbered.l1 q7 p p2 to xs0_2 ls0_1 0) else (some ls0_1)
def impl_position_renumbered.l1 : Nat → Int → List Int → List Int → Int → List Int → Int → Option (List Int)
  | 0, _, _, _, _, _, _ => none
  | q9 + 1, p, p2, to, xs0_2, ls1_1, xs1_2 => if xs1_2 < xs0_2 then ((getI to xs1_2).bind fun t11 => (getI to xs0_2).bind fun t12 => (impl_number.f t11 t12).bind fun t13 => (impl_number.f xs1_2 xs0_2).bind fun t14 => (getI p2 t14).bind fun t15 => (getI ls1_1 t13).bind fun t16 => impl_position_renumbered.l1 q9 p p2 to xs0_2 (ls1_1.set t13.toNat t15) (w64 (xs1_2 + 1))) else (impl_position_renumbered.l0 q9 p p2 to ls1_1 (w64 (xs0_2 + 1)))
end
def impl_position_renumbered.f (k : Nat) (p : Int) (p2 : List Int) (to : List Int) : Option (List Int) := (guardO (0 ≤ (p2.length : Int) ∧ (p2.length : Int) ≤ 1073741824)).bind fun _ => impl_position_renumbered.l0 k p p2 to (List.replicate (p2.length : Int).toNat (0 : Int)) 0
set_option maxRecDepth 100000 in
set_option maxHeartbeats 1000000 in
theorem impl_position_renumbered.calls (k : Nat) (X : List Nat) (w0 : World) (A : Option Addr) (c : Nat) (m : Nat) (A2 : Option Addr) (c2 : Nat) (m2 : Nat) (p : Int) (p2 : List Int) (to : List Int) (r : List Int)
    (hp : Pre X w0 [] [IntsAt A c m p2, IntsAt A2 c2 m2 to]) (H : impl_position_renumbered.f k p p2 to = some r) :
    Calls Try.prog 69 [.agg [.int .i64 p, .slice A m c].toArray, .slice A2 m2 c2].toArray w0 (Ret fun v w => ∃ (A_0 : Option Addr) (c_0 : Nat) (n_0 : Nat), v = .slice A_0 n_0 c_0 ∧ Post X (fps []) w0 [.vec A_0 c_0 2 1 n_0 (ints r)] [] w) := by
  unfold impl_position_renumbered.f at H
  refine enterM (n := 42) hp Try.func69 rfl rfl (Nat.le_of_ble_eq_true rfl) fun a w ht hm => ?_
  refine wp_seq ?_
  refine wpr ?_
  refine wpl_box rfl rfl ht hm rfl rfl rfl ?_
  intro b1 a ht w hm
  refine wpl rfl rfl ht (ev_assign ht rfl rfl) ?_
  intro a ht
  refine wpList_nil ?_
  refine then_normal ?_
  refine wp_seq ?_
  refine wpr ?_
  refine wpl rfl rfl ht (ev_fieldAddr ht rfl rfl fo_35_1) ?_
  intro a ht
  refine wpl rfl rfl ht (ev_load ht rfl rfl sc_22 (hm.blk_cell 0 rfl rfl)) ?_
  intro a ht
  refine wpl rfl rfl ht (ev_len_of ht rfl rfl und_22 (hm.fact (φ := IntsAt A c m p2) 0 rfl)) ?_
  intro a ht
  obtain ⟨u4, eu4, H⟩ := bind_get H
  refine wpl_make_ints rfl rfl ht hm rfl und_22 zo_2 sz1_2 by_2 rfl rfl (guardO_get eu4) ?_
  intro A3 m5 c6 a ht w hm
  refine wpl rfl rfl ht (ev_assign ht rfl rfl) ?_
  intro a ht
  refine wpList_nil ?_
  refine then_normal ?_
  refine wp_seq ?_
  refine wp_seq ?_
  refine wpr ?_
  refine wpl rfl rfl ht (ev_fieldAddr ht rfl rfl fo_35_0) ?_
  intro a ht
  refine wpl rfl rfl ht (ev_load ht rfl rfl sc_2 (hm.blk_cell 1 rfl rfl)) ?_
  intro a ht
  refine wpl rfl rfl ht (ev_move ht rfl rfl) ?_
  intro a ht
  refine wpList_nil ?_
  refine then_normal ?_
  refine wp_block ?_
  refine wpLoop (fun q a w => ∃ (ls0_1 : List Int) (xs0_2 : Int), impl_position_renumbered.l0 q p p2 to ls0_1 xs0_2 = some r ∧ q ≤ k ∧ Tm 42 [(1, .slice A2 m2 c2), (2, .pointer (some ⟨b1, 0, none⟩)), (4, .slice none 0 0), (5, .slice A3 m5 c6), (13, .int .i64 p), (14, .int .i64 xs0_2)] a ∧ Ms X (fps []) w0 [.vec A3 c6 2 1 m5 (ints ls0_1), .blk b1 35 [.int .i64 p, .slice A m c]] [IntsAt A2 c2 m2 to, IntsAt A c m p2] w) (k0 := k) ⟨(List.replicate (p2.length : Int).toNat (0 : Int)), 0, H, Nat.le_refl _, ht.sub ⟨rfl, rfl, rfl, rfl, rfl, rfl, trivial⟩, (hm.pick [0, 1] rfl (by decide)).pickφ [1, 0] rfl⟩ ?_
  clear H ht hm
  intro q7 a w hJ
  obtain ⟨ls0_1, xs0_2, H, hqq7, ht, hm⟩ := hJ
  cases q7 with
  | zero => cases H
  | succ q7 =>
  rw [impl_position_renumbered.l0] at H
  refine wp_seq ?_
  refine wpr ?_
  refine wpl rfl rfl ht (ev_cmp ht rfl rfl rfl rfl) ?_
  intro a ht
  refine wpList_nil ?_
  refine then_normal ?_
  refine wp_seq ?_
  by_cases h8 : xs0_2 < p
  · replace H := ite_yes h8 H
    refine wpc_yes ht rfl (decide_eq_true h8) ?_
    refine wp_skip ?_
    refine then_normal ?_
    refine wp_seq ?_
    refine wp_block ?_
    refine wp_seq ?_
    refine wpr ?_
    refine wpl rfl rfl ht (ev_move ht rfl rfl) ?_
    intro a ht
    refine wpl rfl rfl ht (ev_assign ht rfl rfl) ?_
    intro a ht
    refine wpList_nil ?_
    refine then_normal ?_
    refine wp_seq ?_
    refine wpr ?_
    refine wpl rfl rfl ht (ev_move ht rfl rfl) ?_
    intro a ht
    refine wpl rfl rfl ht (ev_move ht rfl rfl) ?_
    intro a ht
    refine wpList_nil ?_
    refine then_normal ?_
    refine wp_block ?_
    refine wpLoop (fun q a w => ∃ (ls1_1 : List Int) (xs1_2 : Int), impl_position_renumbered.l1 q p p2 to xs0_2 ls1_1 xs1_2 = some r ∧ q ≤ q7 ∧ Tm 42 [(1, .slice A2 m2 c2), (2, .pointer (some ⟨b1, 0, none⟩)), (4, .slice none 0 0), (5, .slice A3 m5 c6), (6, .int .i64 xs0_2), (13, .int .i64 p), (14, .int .i64 xs0_2), (15, .bool (decide (xs0_2 < p))), (16, .int .i64 xs0_2), (17, .int .i64 xs0_2), (18, .int .i64 xs1_2)] a ∧ Ms X (fps []) w0 [.vec A3 c6 2 1 m5 (ints ls1_1), .blk b1 35 [.int .i64 p, .slice A m c]] [IntsAt A2 c2 m2 to, IntsAt A c m p2] w) (k0 := q7) ⟨ls0_1, 0, H, Nat.le_refl _, ht.sub ⟨rfl, rfl, rfl, rfl, rfl, rfl, rfl, rfl, rfl, rfl, rfl, trivial⟩, (hm.pick [0, 1] rfl (by decide)).pickφ [0, 1] rfl⟩ ?_
    clear H ht hm
    intro q9 a w hJ
    obtain ⟨ls1_1, xs1_2, H, hqq9, ht, hm⟩ := hJ
    cases q9 with
    | zero => cases H
    | succ q9 =>
    rw [impl_position_renumbered.l1] at H
    refine wp_seq ?_
    refine wpr ?_
    refine wpl rfl rfl ht (ev_cmp ht rfl rfl rfl rfl) ?_
    intro a ht
    refine wpList_nil ?_
    refine then_normal ?_
    refine wp_seq ?_
    by_cases h10 : xs1_2 < xs0_2
    · replace H := ite_yes h10 H
      refine wpc_yes ht rfl (decide_eq_true h10) ?_
      refine wp_skip ?_
      refine then_normal ?_
      refine wp_seq ?_
      refine wp_block ?_
      refine wp_seq ?_
      refine wpr ?_
      refine wpl rfl rfl ht (ev_move ht rfl rfl) ?_
      intro a ht
      refine wpl rfl rfl ht (ev_assign ht rfl rfl) ?_
      intro a ht
      refine wpList_nil ?_
      refine then_normal ?_
      refine wph_begin (fun w => Ms X (fps []) w0 [.blk b1 35 [.int .i64 p, .slice A m c]] [IntsAt A2 c2 m2 to, IntsAt A c m p2] w) mixed ?_
      replace hm := hm.drew
      have hS : Ms X (fps []) w0 [.blk b1 35 [.int .i64 p, .slice A m c]] [IntsAt A2 c2 m2 to, IntsAt A c m p2] w.drew := (hm.pick [1] rfl (by decide)).pickφ [0, 1] rfl
      generalize w.drew = w at hm hS ⊢
      refine wph_take (i := 0) rfl (by kernel_rfl) (by kernel_rfl) (by kernel_rfl) (fun _ _ _ h => h) rfl ht hS (wanted_plain rfl) (fun w hm => ev_move ht rfl rfl) ?_
      intro a ht
      refine wph_take (i := 1) rfl (by kernel_rfl) (by kernel_rfl) (by kernel_rfl) (fun _ _ _ h => h) rfl ht hS (wanted_plain rfl) (fun w hm => ev_move ht rfl rfl) ?_
      intro a ht
      refine wph_take (i := 2) rfl (by kernel_rfl) (by kernel_rfl) (by kernel_rfl) (fun _ _ _ h => h) rfl ht hS (wanted_plain rfl) (fun w hm => ev_move ht rfl rfl) ?_
      intro a ht
      obtain ⟨t11, et11, H⟩ := bind_get H
      refine wph_take (i := 3) rfl (by kernel_rfl) (by kernel_rfl) (by kernel_rfl) (fun _ _ _ h => h) rfl ht hS (wanted_plain rfl) (fun w hm => ev_index_ints ht rfl rfl rfl so_22 (hm.fact (φ := IntsAt A2 c2 m2 to) 0 rfl) et11) ?_
      intro a ht
      refine wph_take (i := 4) rfl (by kernel_rfl) (by kernel_rfl) (by kernel_rfl) (fun _ _ _ h => h) rfl ht hS (wanted_plain rfl) (fun w hm => ev_load ht rfl rfl sc_2 (RowAt.cell (hm.fact (φ := IntsAt A2 c2 m2 to) 0 rfl) (ints_get et11) rfl)) ?_
      intro a ht
      refine wph_take (i := 5) rfl (by kernel_rfl) (by kernel_rfl) (by kernel_rfl) (fun _ _ _ h => h) rfl ht hS (wanted_plain rfl) (fun w hm => ev_move ht rfl rfl) ?_
      intro a ht
      refine wph_take (i := 6) rfl (by kernel_rfl) (by kernel_rfl) (by kernel_rfl) (fun _ _ _ h => h) rfl ht hS (wanted_plain rfl) (fun w hm => ev_move ht rfl rfl) ?_
      intro a ht
      obtain ⟨t12, et12, H⟩ := bind_get H
      refine wph_take (i := 7) rfl (by kernel_rfl) (by kernel_rfl) (by kernel_rfl) (fun _ _ _ h => h) rfl ht hS (wanted_plain rfl) (fun w hm => ev_index_ints ht rfl rfl rfl so_22 (hm.fact (φ := IntsAt A2 c2 m2 to) 0 rfl) et12) ?_
      intro a ht
      refine wph_take (i := 8) rfl (by kernel_rfl) (by kernel_rfl) (by kernel_rfl) (fun _ _ _ h => h) rfl ht hS (wanted_plain rfl) (fun w hm => ev_load ht rfl rfl sc_2 (RowAt.cell (hm.fact (φ := IntsAt A2 c2 m2 to) 0 rfl) (ints_get et12) rfl)) ?_
      intro a ht
      refine wph_take (i := 10) rfl (by kernel_rfl) (by kernel_rfl) (by kernel_rfl) (fun _ _ _ h => h) rfl ht hS (wanted_plain rfl) (fun w hm => ev_fieldAddr ht rfl rfl fo_35_1) ?_
      intro a ht
      refine wph_take (i := 11) rfl (by kernel_rfl) (by kernel_rfl) (by kernel_rfl) (fun _ _ _ h => h) rfl ht hS (wanted_plain rfl) (fun w hm => ev_load ht rfl rfl sc_22 (hm.blk_cell 0 rfl rfl)) ?_
      intro a ht
      refine wph_take (i := 12) rfl (by kernel_rfl) (by kernel_rfl) (by kernel_rfl) (fun _ _ _ h => h) rfl ht hS (wanted_plain rfl) (fun w hm => ev_move ht rfl rfl) ?_
      intro a ht
      refine wph_take (i := 13) rfl (by kernel_rfl) (by kernel_rfl) (by kernel_rfl) (fun _ _ _ h => h) rfl ht hS (wanted_plain rfl) (fun w hm => ev_move ht rfl rfl) ?_
      intro a ht
      refine wph_one (i := 9) (by kernel_rfl) (wph_step rfl ?_)
      obtain ⟨t13, et13, H⟩ := bind_get H
      have hcall := impl_number.calls _ _ t11 t12 _ ((fun (hq : Ms _ _ _ ([] ++ [.vec A3 c6 2 1 m5 (ints ls1_1), .blk b1 35 [.int .i64 p, .slice A m c]]) _ _) => hq.lend (φp := []) (allRO_nil)) (hm.pick (own' := [] ++ [.vec A3 c6 2 1 m5 (ints ls1_1), .blk b1 35 [.int .i64 p, .slice A m c]]) [0, 1] rfl (by decide))) et13
      refine wpl_call _ rfl rfl ht rfl rfl rfl rfl can_80 hcall ?_
      clear hcall
      rintro _ w ⟨rfl, hpost⟩ a ht
      replace hm := (hm.pick (own' := [] ++ [.vec A3 c6 2 1 m5 (ints ls1_1), .blk b1 35 [.int .i64 p, .slice A m c]]) [0, 1] rfl (by decide)).backL hpost
      clear hpost
      have hS : Ms X (fps []) w0 [.blk b1 35 [.int .i64 p, .slice A m c]] [IntsAt A2 c2 m2 to, IntsAt A c m p2] w := (hm.pick [1] rfl (by decide)).pickφ [0, 1] rfl
      refine wpList_nil (qn ⟨hS, ?_⟩)
      refine wph_one (i := 14) (by kernel_rfl) (wph_step rfl ?_)
      obtain ⟨t14, et14, H⟩ := bind_get H
      have hcall := impl_number.calls _ _ xs1_2 xs0_2 _ ((fun (hq : Ms _ _ _ ([] ++ [.vec A3 c6 2 1 m5 (ints ls1_1), .blk b1 35 [.int .i64 p, .slice A m c]]) _ _) => hq.lend (φp := []) (allRO_nil)) (hm.pick (own' := [] ++ [.vec A3 c6 2 1 m5 (ints ls1_1), .blk b1 35 [.int .i64 p, .slice A m c]]) [0, 1] rfl (by decide))) et14
      refine wpl_call _ rfl rfl ht rfl rfl rfl rfl can_80 hcall ?_
      clear hcall
      rintro _ w ⟨rfl, hpost⟩ a ht
      replace hm := (hm.pick (own' := [] ++ [.vec A3 c6 2 1 m5 (ints ls1_1), .blk b1 35 [.int .i64 p, .slice A m c]]) [0, 1] rfl (by decide)).backL hpost
      clear hpost
      have hS : Ms X (fps []) w0 [.blk b1 35 [.int .i64 p, .slice A m c]] [IntsAt A2 c2 m2 to, IntsAt A c m p2] w := (hm.pick [1] rfl (by decide)).pickφ [0, 1] rfl
      refine wpList_nil (qn ⟨hS, ?_⟩)
      obtain ⟨t15, et15, H⟩ := bind_get H
      refine wph_take (i := 15) rfl (by kernel_rfl) (by kernel_rfl) (by kernel_rfl) (fun _ _ _ h => h) rfl ht hS (wanted_plain rfl) (fun w hm => ev_index_ints ht rfl rfl rfl so_22 (hm.fact (φ := IntsAt A c m p2) 1 rfl) et15) ?_
      intro a ht
      refine wph_take (i := 16) rfl (by kernel_rfl) (by kernel_rfl) (by kernel_rfl) (fun _ _ _ h => h) rfl ht hS (wanted_plain rfl) (fun w hm => ev_load ht rfl rfl sc_2 (RowAt.cell (hm.fact (φ := IntsAt A c m p2) 1 rfl) (ints_get et15) rfl)) ?_
      intro a ht
      refine wph_one (i := 17) (by kernel_rfl) (wph_step rfl ?_)
      obtain ⟨t16, et16, H⟩ := bind_get H
      refine wpl rfl rfl ht (ev_index_ints ht rfl rfl rfl so_22 (hm.vec_row 0 rfl) et16) ?_
      intro a ht
      have hS : Ms X (fps []) w0 [.blk b1 35 [.int .i64 p, .slice A m c]] [IntsAt A2 c2 m2 to, IntsAt A c m p2] w := (hm.pick [1] rfl (by decide)).pickφ [0, 1] rfl
      refine wpList_nil (qn ⟨hS, ?_⟩)
      refine wph_one (i := 18) (by kernel_rfl) (wph_step rfl ?_)
      refine wpl_store_int 0 rfl rfl ht hm rfl rfl rfl sz1_2 rfl et16 ?_
      intro a ht w hm
      have hS : Ms X (fps []) w0 [.blk b1 35 [.int .i64 p, .slice A m c]] [IntsAt A2 c2 m2 to, IntsAt A c m p2] w := (hm.pick [1] rfl (by decide)).pickφ [0, 1] rfl
      refine wpList_nil (qn ⟨hS, ?_⟩)
      refine wph_done (by kernel_rfl) ?_
      refine blk_normal ?_
      refine then_normal ?_
      refine wpr ?_
      refine wpl rfl rfl ht (ev_arith ht rfl rfl rfl rfl) ?_
      intro a ht
      refine wpl rfl rfl ht (ev_move ht rfl rfl) ?_
      intro a ht
      refine wpList_nil ?_
      exact then_normal ⟨q9, by omega, (ls1_1.set t13.toNat t15), (w64 (xs1_2 + 1)), H, by omega, ht.sub ⟨rfl, rfl, rfl, rfl, rfl, rfl, rfl, rfl, rfl, rfl, rfl, trivial⟩, (hm.pick [0, 1] rfl (by decide)).pickφ [0, 1] rfl⟩
    · replace H := ite_no h10 H
      refine wpc_no ht rfl (decide_eq_false h10) ?_
      refine wp_exit ?_
      refine then_exit ?_
      refine then_exit ?_
      refine blk_hit ?_
      refine blk_normal ?_
      refine then_normal ?_
      refine wpr ?_
      refine wpl rfl rfl ht (ev_arith ht rfl rfl rfl rfl) ?_
      intro a ht
      refine wpl rfl rfl ht (ev_move ht rfl rfl) ?_
      intro a ht
      refine wpList_nil ?_
      exact then_normal ⟨q9, by omega, ls1_1, (w64 (xs0_2 + 1)), H, by omega, ht.sub ⟨rfl, rfl, rfl, rfl, rfl, rfl, trivial⟩, (hm.pick [0, 1] rfl (by decide)).pickφ [0, 1] rfl⟩
  · replace H := ite_no h8 H
    refine wpc_no ht rfl (decide_eq_false h8) ?_
    refine wp_exit ?_
    refine then_exit ?_
    refine then_exit ?_
    refine blk_hit ?_
    refine then_normal ?_
    refine wp_seq ?_
    refine wpr ?_
    refine wpl rfl rfl ht (ev_move ht rfl rfl) ?_
    intro a ht
    refine wpl rfl rfl ht (ev_assign ht rfl rfl) ?_
    intro a ht
    refine wpList_nil ?_
    refine then_normal ?_
    refine wp_ret ?_
    have hres := ht.res (P := Try.prog) (w := w) (rs := [.tmp 4]) (vs := [.slice A3 m5 c6]) (.tmp rfl .nil)
    obtain rfl := Option.some.inj H
    exact leave ht rfl hres ⟨A3, c6, m5, rfl, ((hm.pick [0] rfl (by decide)).pickφ [] rfl).post fun _ h => h⟩

/-! ### cmp_isNaN_int64: function 92 (cmp.isNaN[int64]) -/
def cmp_isNaN_int64.f (x : Int) : Option (Bool) := some (decide (x ≠ x))
set_option maxRecDepth 100000 in
set_option maxHeartbeats 1000000 in
theorem cmp_isNaN_int64.calls (X : List Nat) (w0 : World)  (x : Int) (r : Bool)
    (hp : Pre X w0 [] []) (H : cmp_isNaN_int64.f x = some r) :
    Calls Try.prog 92 [.int .i64 x].toArray w0 (Ret fun v w => v = .bool r ∧ Post X (fps []) w0 [] [] w) := by
  unfold cmp_isNaN_int64.f at H
  refine enterM (n := 6) hp Try.func92 rfl rfl (Nat.le_of_ble_eq_true rfl) fun a w ht hm => ?_
  refine wp_seq ?_
  refine wpr ?_
  refine wpl rfl rfl ht (ev_assign ht rfl rfl) ?_
  intro a ht
  refine wpList_nil ?_
  refine then_normal ?_
  refine wp_seq ?_
  refine wpr ?_
  refine wpl rfl rfl ht (ev_move ht rfl rfl) ?_
  intro a ht
  refine wpl rfl rfl ht (ev_move ht rfl rfl) ?_
  intro a ht
  refine wpl rfl rfl ht (ev_cmp ht rfl rfl rfl rfl) ?_
  intro a ht
  refine wpl rfl rfl ht (ev_assign ht rfl rfl) ?_
  intro a ht
  refine wpList_nil ?_
  refine then_normal ?_
  refine wp_ret ?_
  have hres := ht.res (P := Try.prog) (w := w) (rs := [.tmp 2]) (vs := [.bool (decide (x ≠ x))]) (.tmp rfl .nil)
  obtain rfl := Option.some.inj H
  exact leave ht rfl hres ⟨rfl, ((hm.pick [] rfl (by decide)).pickφ [] rfl).post fun _ h => h⟩

/-! ### cmp_Compare_int64: function 87 (cmp.Compare[int64]) -/
def cmp_Compare_int64.f (x : Int) (y : Int) : Option (Int) := (cmp_isNaN_int64.f x).bind fun t1 => (cmp_isNaN_int64.f y).bind fun t2 => if t1 = true then (if t2 = true then (some 0) else (some (-1))) else (if t2 = true then (some 1) else (if x < y then (some (-1)) else (if x > y then (some 1) else (some 0))))
set_option maxRecDepth 100000 in
set_option maxHeartbeats 1000000 in
theorem cmp_Compare_int64.calls (X : List Nat) (w0 : World)  (x : Int) (y : Int) (r : Int)
    (hp : Pre X w0 [] []) (H : cmp_Compare_int64.f x y = some r) :
    Calls Try.prog 87 [.int .i64 x, .int .i64 y].toArray w0 (Ret fun v w => v = .int .i64 r ∧ Post X (fps []) w0 [] [] w) := by
  unfold cmp_Compare_int64.f at H
  refine enterM (n := 20) hp Try.func87 rfl rfl (Nat.le_of_ble_eq_true rfl) fun a w ht hm => ?_
  refine wp_seq ?_
  refine wpr ?_
  refine wpl rfl rfl ht (ev_assign ht rfl rfl) ?_
  intro a ht
  refine wpList_nil ?_
  refine then_normal ?_
  refine wp_seq ?_
  refine wpr ?_
  refine wpl rfl rfl ht (ev_move ht rfl rfl) ?_
  intro a ht
  obtain ⟨t1, et1, H⟩ := bind_get H
  have hcall := cmp_isNaN_int64.calls _ _ x _ ((fun (hq : Ms _ _ _ ([] ++ []) _ _) => hq.lend (φp := []) (allRO_nil)) (hm.pick (own' := [] ++ []) [] rfl (by decide))) et1
  refine wpl_call _ rfl rfl ht rfl rfl rfl rfl can_92 hcall ?_
  clear hcall
  rintro _ w ⟨rfl, hpost⟩ a ht
  replace hm := (hm.pick (own' := [] ++ []) [] rfl (by decide)).backL hpost
  clear hpost
  refine wpl rfl rfl ht (ev_assign ht rfl rfl) ?_
  intro a ht
  refine wpList_nil ?_
  refine then_normal ?_
  refine wp_seq ?_
  refine wpr ?_
  refine wpl rfl rfl ht (ev_move ht rfl rfl) ?_
  intro a ht
  obtain ⟨t2, et2, H⟩ := bind_get H
  have hcall := cmp_isNaN_int64.calls _ _ y _ ((fun (hq : Ms _ _ _ ([] ++ []) _ _) => hq.lend (φp := []) (allRO_nil)) (hm.pick (own' := [] ++ []) [] rfl (by decide))) et2
  refine wpl_call _ rfl rfl ht rfl rfl rfl rfl can_92 hcall ?_
  clear hcall
  rintro _ w ⟨rfl, hpost⟩ a ht
  replace hm := (hm.pick (own' := [] ++ []) [] rfl (by decide)).backL hpost
  clear hpost
  refine wpl rfl rfl ht (ev_assign ht rfl rfl) ?_
  intro a ht
  refine wpList_nil ?_
  refine then_normal ?_
  refine wp_seq ?_
  refine wp_seq ?_
  refine wpr ?_
  refine wpl rfl rfl ht (ev_move ht rfl rfl) ?_
  intro a ht
  refine wpList_nil ?_
  refine then_normal ?_
  by_cases h3 : t1 = true
  · replace H := ite_yes h3 H
    refine wpc_yes ht rfl h3 ?_
    refine wp_seq ?_
    refine wp_seq ?_
    refine wpr ?_
    refine wpl rfl rfl ht (ev_move ht rfl rfl) ?_
    intro a ht
    refine wpList_nil ?_
    refine then_normal ?_
    by_cases h4 : t2 = true
    · replace H := ite_yes h4 H
      refine wpc_yes ht rfl h4 ?_
      refine wp_seq ?_
      refine wpr ?_
      refine wpl rfl rfl ht (ev_assign ht rfl rfl) ?_
      intro a ht
      refine wpList_nil ?_
      refine then_normal ?_
      refine wp_ret ?_
      refine then_ret ?_
      refine then_ret ?_
      have hres := ht.res (P := Try.prog) (w := w) (rs := [.tmp 4]) (vs := [.int .i64 0]) (.tmp rfl .nil)
      obtain rfl := Option.some.inj H
      exact leave ht rfl hres ⟨rfl, ((hm.pick [] rfl (by decide)).pickφ [] rfl).post fun _ h => h⟩
    · replace H := ite_no h4 H
      refine wpc_no ht rfl (Bool.eq_false_iff.mpr h4) ?_
      refine wp_skip ?_
      refine then_normal ?_
      refine wp_seq ?_
      refine wpr ?_
      refine wpl rfl rfl ht (ev_assign ht rfl rfl) ?_
      intro a ht
      refine wpList_nil ?_
      refine then_normal ?_
      refine wp_ret ?_
      refine then_ret ?_
      have hres := ht.res (P := Try.prog) (w := w) (rs := [.tmp 4]) (vs := [.int .i64 (-1)]) (.tmp rfl .nil)
      obtain rfl := Option.some.inj H
      exact leave ht rfl hres ⟨rfl, ((hm.pick [] rfl (by decide)).pickφ [] rfl).post fun _ h => h⟩
  · replace H := ite_no h3 H
    refine wpc_no ht rfl (Bool.eq_false_iff.mpr h3) ?_
    refine wp_skip ?_
    refine then_normal ?_
    refine wp_seq ?_
    refine wp_seq ?_
    refine wpr ?_
    refine wpl rfl rfl ht (ev_move ht rfl rfl) ?_
    intro a ht
    refine wpList_nil ?_
    refine then_normal ?_
    by_cases h5 : t2 = true
    · replace H := ite_yes h5 H
      refine wpc_yes ht rfl h5 ?_
      refine wp_seq ?_
      refine wpr ?_
      refine wpl rfl rfl ht (ev_assign ht rfl rfl) ?_
      intro a ht
      refine wpList_nil ?_
      refine then_normal ?_
      refine wp_ret ?_
      refine then_ret ?_
      have hres := ht.res (P := Try.prog) (w := w) (rs := [.tmp 4]) (vs := [.int .i64 1]) (.tmp rfl .nil)
      obtain rfl := Option.some.inj H
      exact leave ht rfl hres ⟨rfl, ((hm.pick [] rfl (by decide)).pickφ [] rfl).post fun _ h => h⟩
    · replace H := ite_no h5 H
      refine wpc_no ht rfl (Bool.eq_false_iff.mpr h5) ?_
      refine wp_skip ?_
      refine then_normal ?_
      refine wp_seq ?_
      refine wp_seq ?_
      refine wpr ?_
      refine wpl rfl rfl ht (ev_move ht rfl rfl) ?_
      intro a ht
      refine wpl rfl rfl ht (ev_move ht rfl rfl) ?_
      intro a ht
      refine wpl rfl rfl ht (ev_cmp ht rfl rfl rfl rfl) ?_
      intro a ht
      refine wpList_nil ?_
      refine then_normal ?_
      by_cases h6 : x < y
      · replace H := ite_yes h6 H
        refine wpc_yes ht rfl (decide_eq_true h6) ?_
        refine wp_seq ?_
        refine wpr ?_
        refine wpl rfl rfl ht (ev_assign ht rfl rfl) ?_
        intro a ht
        refine wpList_nil ?_
        refine then_normal ?_
        refine wp_ret ?_
        refine then_ret ?_
        have hres := ht.res (P := Try.prog) (w := w) (rs := [.tmp 4]) (vs := [.int .i64 (-1)]) (.tmp rfl .nil)
        obtain rfl := Option.some.inj H
        exact leave ht rfl hres ⟨rfl, ((hm.pick [] rfl (by decide)).pickφ [] rfl).post fun _ h => h⟩
      · replace H := ite_no h6 H
        refine wpc_no ht rfl (decide_eq_false h6) ?_
        refine wp_skip ?_
        refine then_normal ?_
        refine wp_seq ?_
        refine wp_seq ?_
        refine wpr ?_
        refine wpl rfl rfl ht (ev_move ht rfl rfl) ?_
        intro a ht
        refine wpl rfl rfl ht (ev_move ht rfl rfl) ?_
        intro a ht
        refine wpl rfl rfl ht (ev_cmp ht rfl rfl rfl rfl) ?_
        intro a ht
        refine wpList_nil ?_
        refine then_normal ?_
        by_cases h7 : x > y
        · replace H := ite_yes h7 H
          refine wpc_yes ht rfl (decide_eq_true h7) ?_
          refine wp_seq ?_
          refine wpr ?_
          refine wpl rfl rfl ht (ev_assign ht rfl rfl) ?_
          intro a ht
          refine wpList_nil ?_
          refine then_normal ?_
          refine wp_ret ?_
          refine then_ret ?_
          have hres := ht.res (P := Try.prog) (w := w) (rs := [.tmp 4]) (vs := [.int .i64 1]) (.tmp rfl .nil)
          obtain rfl := Option.some.inj H
          exact leave ht rfl hres ⟨rfl, ((hm.pick [] rfl (by decide)).pickφ [] rfl).post fun _ h => h⟩
        · replace H := ite_no h7 H
          refine wpc_no ht rfl (decide_eq_false h7) ?_
          refine wp_skip ?_
          refine then_normal ?_
          refine wp_seq ?_
          refine wpr ?_
          refine wpl rfl rfl ht (ev_assign ht rfl rfl) ?_
          intro a ht
          refine wpList_nil ?_
          refine then_normal ?_
          refine wp_ret ?_
          have hres := ht.res (P := Try.prog) (w := w) (rs := [.tmp 4]) (vs := [.int .i64 0]) (.tmp rfl .nil)
          obtain rfl := Option.some.inj H
          exact leave ht rfl hres ⟨rfl, ((hm.pick [] rfl (by decide)).pickφ [] rfl).post fun _ h => h⟩

/-! ### slices_Compare_int64_int64: function 70 (slices.Compare[[]int64,int64]) -/
def slices_Compare_int64_int64.l0 : Nat → List Int → List Int → Int → Option (Int)
  | 0, _, _, _ => none
  | q1 + 1, s1, s2, xs0_1 => if xs0_1 < (s1.length : Int) then ((getI s1 xs0_1).bind fun t3 => if xs0_1 ≥ (s2.length : Int) then (some 1) else ((getI s2 xs0_1).bind fun t5 => (cmp_Compare_int64.f t3 t5).bind fun t6 => if t6 ≠ 0 then (some t6) else (slices_Compare_int64_int64.l0 q1 s1 s2 (w64 (xs0_1 + 1))))) else (if (s1.length : Int) < (s2.length : Int) then (some (-1)) else (some 0))
def slices_Compare_int64_int64.f (k : Nat) (s1 : List Int) (s2 : List Int) : Option (Int) := slices_Compare_int64_int64.l0 k s1 s2 0
set_option maxRecDepth 100000 in
set_option maxHeartbeats 1000000 in
theorem slices_Compare_int64_int64.calls (k : Nat) (X : List Nat) (w0 : World) (A : Option Addr) (c : Nat) (m : Nat) (A2 : Option Addr) (c2 : Nat) (m2 : Nat) (s1 : List Int) (s2 : List Int) (r : Int)
    (hp : Pre X w0 [] [IntsAt A c m s1, IntsAt A2 c2 m2 s2]) (H : slices_Compare_int64_int64.f k s1 s2 = some r) :
    Calls Try.prog 70 [.slice A m c, .slice A2 m2 c2].toArray w0 (Ret fun v w => v = .int .i64 r ∧ Post X (fps []) w0 [] [] w) := by
  unfold slices_Compare_int64_int64.f at H
  refine enterM (n := 36) hp Try.func70 rfl rfl (Nat.le_of_ble_eq_true rfl) fun a w ht hm => ?_
  refine wp_seq ?_
  refine wpr ?_
  refine wpl rfl rfl ht (ev_assign ht rfl rfl) ?_
  intro a ht
  refine wpList_nil ?_
  refine then_normal ?_
  refine wp_seq ?_
  refine wp_seq ?_
  refine wpr ?_
  refine wpl rfl rfl ht (ev_move ht rfl rfl) ?_
  intro a ht
  refine wpl rfl rfl ht (ev_len_of ht rfl rfl und_22 (hm.fact (φ := IntsAt A c m s1) 0 rfl)) ?_
  intro a ht
  refine wpl rfl rfl ht (ev_move ht rfl rfl) ?_
  intro a ht
  refine wpList_nil ?_
  refine then_normal ?_
  refine wp_block ?_
  refine wpLoop (fun q a w => ∃ (xs0_1 : Int), slices_Compare_int64_int64.l0 q s1 s2 xs0_1 = some r ∧ q ≤ k ∧ Tm 36 [(0, .slice A m c), (1, .slice A2 m2 c2), (4, .int .i64 0), (9, .slice A m c), (10, .int .i64 (s1.length : Int)), (11, .int .i64 xs0_1)] a ∧ Ms X (fps []) w0 [] [IntsAt A c m s1, IntsAt A2 c2 m2 s2] w) (k0 := k) ⟨0, H, Nat.le_refl _, ht.sub ⟨rfl, rfl, rfl, rfl, rfl, rfl, trivial⟩, (hm.pick [] rfl (by decide)).pickφ [0, 1] rfl⟩ ?_
  clear H ht hm
  intro q1 a w hJ
  obtain ⟨xs0_1, H, hqq1, ht, hm⟩ := hJ
  cases q1 with
  | zero => cases H
  | succ q1 =>
  rw [slices_Compare_int64_int64.l0] at H
  refine wp_seq ?_
  refine wpr ?_
  refine wpl rfl rfl ht (ev_cmp ht rfl rfl rfl rfl) ?_
  intro a ht
  refine wpList_nil ?_
  refine then_normal ?_
  refine wp_seq ?_
  by_cases h2 : xs0_1 < (s1.length : Int)
  · replace H := ite_yes h2 H
    refine wpc_yes ht rfl (decide_eq_true h2) ?_
    refine wp_skip ?_
    refine then_normal ?_
    refine wp_seq ?_
    refine wp_block ?_
    refine wp_seq ?_
    refine wpr ?_
    refine wpl rfl rfl ht (ev_move ht rfl rfl) ?_
    intro a ht
    obtain ⟨t3, et3, H⟩ := bind_get H
    refine wpl rfl rfl ht (ev_index_ints ht rfl rfl rfl so_22 (hm.fact (φ := IntsAt A c m s1) 0 rfl) et3) ?_
    intro a ht
    refine wpl rfl rfl ht (ev_load ht rfl rfl sc_2 (RowAt.cell (hm.fact (φ := IntsAt A c m s1) 0 rfl) (ints_get et3) rfl)) ?_
    intro a ht
    refine wpl rfl rfl ht (ev_assign ht rfl rfl) ?_
    intro a ht
    refine wpl rfl rfl ht (ev_assign ht rfl rfl) ?_
    intro a ht
    refine wpList_nil ?_
    refine then_normal ?_
    refine wp_seq ?_
    refine wp_seq ?_
    refine wpr ?_
    refine wpl rfl rfl ht (ev_move ht rfl rfl) ?_
    intro a ht
    refine wpl rfl rfl ht (ev_move ht rfl rfl) ?_
    intro a ht
    refine wpl rfl rfl ht (ev_len_of ht rfl rfl und_22 (hm.fact (φ := IntsAt A2 c2 m2 s2) 1 rfl)) ?_
    intro a ht
    refine wpl rfl rfl ht (ev_cmp ht rfl rfl rfl rfl) ?_
    intro a ht
    refine wpList_nil ?_
    refine then_normal ?_
    by_cases h4 : xs0_1 ≥ (s2.length : Int)
    · replace H := ite_yes h4 H
      refine wpc_yes ht rfl (decide_eq_true h4) ?_
      refine wp_seq ?_
      refine wpr ?_
      refine wpl rfl rfl ht (ev_assign ht rfl rfl) ?_
      intro a ht
      refine wpList_nil ?_
      refine then_normal ?_
      refine wp_ret ?_
      refine then_ret ?_
      refine blk_ret ?_
      refine then_ret ?_
      refine then_ret ?_
      refine blk_ret ?_
      refine then_ret ?_
      have hres := ht.res (P := Try.prog) (w := w) (rs := [.tmp 4]) (vs := [.int .i64 1]) (.tmp rfl .nil)
      obtain rfl := Option.some.inj H
      exact leave ht rfl hres ⟨rfl, ((hm.pick [] rfl (by decide)).pickφ [] rfl).post fun _ h => h⟩
    · replace H := ite_no h4 H
      refine wpc_no ht rfl (decide_eq_false h4) ?_
      refine wp_skip ?_
      refine then_normal ?_
      refine wp_seq ?_
      refine wpr ?_
      refine wpl rfl rfl ht (ev_move ht rfl rfl) ?_
      intro a ht
      refine wpl rfl rfl ht (ev_move ht rfl rfl) ?_
      intro a ht
      obtain ⟨t5, et5, H⟩ := bind_get H
      refine wpl rfl rfl ht (ev_index_ints ht rfl rfl rfl so_22 (hm.fact (φ := IntsAt A2 c2 m2 s2) 1 rfl) et5) ?_
      intro a ht
      refine wpl rfl rfl ht (ev_load ht rfl rfl sc_2 (RowAt.cell (hm.fact (φ := IntsAt A2 c2 m2 s2) 1 rfl) (ints_get et5) rfl)) ?_
      intro a ht
      refine wpl rfl rfl ht (ev_assign ht rfl rfl) ?_
      intro a ht
      refine wpList_nil ?_
      refine then_normal ?_
      refine wp_seq ?_
      refine wpr ?_
      refine wpl rfl rfl ht (ev_move ht rfl rfl) ?_
      intro a ht
      refine wpl rfl rfl ht (ev_move ht rfl rfl) ?_
      intro a ht
      obtain ⟨t6, et6, H⟩ := bind_get H
      have hcall := cmp_Compare_int64.calls _ _ t3 t5 _ ((fun (hq : Ms _ _ _ ([] ++ []) _ _) => hq.lend (φp := []) (allRO_nil)) (hm.pick (own' := [] ++ []) [] rfl (by decide))) et6
      refine wpl_call _ rfl rfl ht rfl rfl rfl rfl can_87 hcall ?_
      clear hcall
      rintro _ w ⟨rfl, hpost⟩ a ht
      replace hm := (hm.pick (own' := [] ++ []) [] rfl (by decide)).backL hpost
      clear hpost
      refine wpl rfl rfl ht (ev_assign ht rfl rfl) ?_
      intro a ht
      refine wpList_nil ?_
      refine then_normal ?_
      refine wp_seq ?_
      refine wpr ?_
      refine wpl rfl rfl ht (ev_move ht rfl rfl) ?_
      intro a ht
      refine wpl rfl rfl ht (ev_cmp ht rfl rfl rfl rfl) ?_
      intro a ht
      refine wpList_nil ?_
      refine then_normal ?_
      by_cases h7 : t6 ≠ 0
      · replace H := ite_yes h7 H
        refine wpc_yes ht rfl (decide_eq_true h7) ?_
        refine wp_seq ?_
        refine wpr ?_
        refine wpl rfl rfl ht (ev_move ht rfl rfl) ?_
        intro a ht
        refine wpl rfl rfl ht (ev_assign ht rfl rfl) ?_
        intro a ht
        refine wpList_nil ?_
        refine then_normal ?_
        refine wp_ret ?_
        refine blk_ret ?_
        refine then_ret ?_
        refine then_ret ?_
        refine blk_ret ?_
        refine then_ret ?_
        have hres := ht.res (P := Try.prog) (w := w) (rs := [.tmp 4]) (vs := [.int .i64 t6]) (.tmp rfl .nil)
        obtain rfl := Option.some.inj H
        exact leave ht rfl hres ⟨rfl, ((hm.pick [] rfl (by decide)).pickφ [] rfl).post fun _ h => h⟩
      · replace H := ite_no h7 H
        refine wpc_no ht rfl (decide_eq_false h7) ?_
        refine wp_skip ?_
        refine blk_normal ?_
        refine then_normal ?_
        refine wpr ?_
        refine wpl rfl rfl ht (ev_arith ht rfl rfl rfl rfl) ?_
        intro a ht
        refine wpl rfl rfl ht (ev_move ht rfl rfl) ?_
        intro a ht
        refine wpList_nil ?_
        exact then_normal ⟨q1, by omega, (w64 (xs0_1 + 1)), H, by omega, ht.sub ⟨rfl, rfl, rfl, rfl, rfl, rfl, trivial⟩, (hm.pick [] rfl (by decide)).pickφ [0, 1] rfl⟩
  · replace H := ite_no h2 H
    refine wpc_no ht rfl (decide_eq_false h2) ?_
    refine wp_exit ?_
    refine then_exit ?_
    refine then_exit ?_
    refine blk_hit ?_
    refine then_normal ?_
    refine wp_seq ?_
    refine wp_seq ?_
    refine wpr ?_
    refine wpl rfl rfl ht (ev_move ht rfl rfl) ?_
    intro a ht
    refine wpl rfl rfl ht (ev_len_of ht rfl rfl und_22 (hm.fact (φ := IntsAt A c m s1) 0 rfl)) ?_
    intro a ht
    refine wpl rfl rfl ht (ev_move ht rfl rfl) ?_
    intro a ht
    refine wpl rfl rfl ht (ev_len_of ht rfl rfl und_22 (hm.fact (φ := IntsAt A2 c2 m2 s2) 1 rfl)) ?_
    intro a ht
    refine wpl rfl rfl ht (ev_cmp ht rfl rfl rfl rfl) ?_
    intro a ht
    refine wpList_nil ?_
    refine then_normal ?_
    by_cases h8 : (s1.length : Int) < (s2.length : Int)
    · replace H := ite_yes h8 H
      refine wpc_yes ht rfl (decide_eq_true h8) ?_
      refine wp_seq ?_
      refine wpr ?_
      refine wpl rfl rfl ht (ev_assign ht rfl rfl) ?_
      intro a ht
      refine wpList_nil ?_
      refine then_normal ?_
      refine wp_ret ?_
      refine then_ret ?_
      have hres := ht.res (P := Try.prog) (w := w) (rs := [.tmp 4]) (vs := [.int .i64 (-1)]) (.tmp rfl .nil)
      obtain rfl := Option.some.inj H
      exact leave ht rfl hres ⟨rfl, ((hm.pick [] rfl (by decide)).pickφ [] rfl).post fun _ h => h⟩
    · replace H := ite_no h8 H
      refine wpc_no ht rfl (decide_eq_false h8) ?_
      refine wp_skip ?_
      refine then_normal ?_
      refine wp_seq ?_
      refine wpr ?_
      refine wpl rfl rfl ht (ev_assign ht rfl rfl) ?_
      intro a ht
      refine wpList_nil ?_
      refine then_normal ?_
      refine wp_ret ?_
      have hres := ht.res (P := Try.prog) (w := w) (rs := [.tmp 4]) (vs := [.int .i64 0]) (.tmp rfl .nil)
      obtain rfl := Option.some.inj H
      exact leave ht rfl hres ⟨rfl, ((hm.pick [] rfl (by decide)).pickφ [] rfl).post fun _ h => h⟩

/-! ### impl_LeastPosition: function 34 (loop.example/g01362/impl.LeastPosition) -/
def impl_LeastPosition.l0 : Nat → Int → List Int → List (List Int) → List Int → Int → Option (List Int × Int)
  | 0, _, _, _, _, _ => none
  | q15 + 1, n_, list, t10, ls0_4, xs0_5 => if xs0_5 < (t10.length : Int) then ((getR t10 xs0_5).bind fun l17 => (impl_position_renumbered.f q15 n_ list l17).bind fun t22 => (slices_Compare_int64_int64.f q15 t22 ls0_4).bind fun t26 => if t26 < 0 then (impl_LeastPosition.l0 q15 n_ list t10 t22 (w64 (xs0_5 + 1))) else (impl_LeastPosition.l0 q15 n_ list t10 ls0_4 (w64 (xs0_5 + 1)))) else (some (ls0_4, 0))
def impl_LeastPosition.f (k : Nat) (n_ : Int) (list : List Int) : Option (List Int × Int) := (impl_position_code__always.f k n_ list).bind fun t2 => if t2 ≠ 0 then (some (([] : List Int), t2)) else ((slices_Clone_int64_int64.f list).bind fun t5 => (impl_orders.f k n_ ([])).bind fun t10 => impl_LeastPosition.l0 k n_ list t10 t5 0)
set_option maxRecDepth 100000 in
set_option maxHeartbeats 1000000 in
theorem impl_LeastPosition.calls (k : Nat) (X : List Nat) (w0 : World) (A : Option Addr) (c : Nat) (m : Nat) (n_ : Int) (list : List Int) (r : List Int × Int)
    (hp : Pre X w0 [] [IntsAt A c m list]) (H : impl_LeastPosition.f k n_ list = some r) :
    Calls Try.prog 34 [.int .i64 n_, .slice A m c].toArray w0 (Ret fun v w => ∃ (A_0 : Option Addr) (c_0 : Nat) (n_0 : Nat), v = .tuple [.slice A_0 n_0 c_0, .int .i64 r.2].toArray ∧ Post X (fps []) w0 [.vec A_0 c_0 2 1 n_0 (ints r.1)] [] w) := by
  unfold impl_LeastPosition.f at H
  refine enterM (n := 39) hp Try.func34 rfl rfl (Nat.le_of_ble_eq_true rfl) fun a w ht hm => ?_
  refine wp_seq ?_
  refine wpr ?_
  refine wpl rfl rfl ht (ev_assign ht rfl rfl) ?_
  intro a ht
  refine wpl rfl rfl ht (ev_assign ht rfl rfl) ?_
  intro a ht
  refine wpList_nil ?_
  refine then_normal ?_
  refine wp_seq ?_
  refine wpr ?_
  refine wpl rfl rfl ht (ev_move ht rfl rfl) ?_
  intro a ht
  refine wpl rfl rfl ht (ev_move ht rfl rfl) ?_
  intro a ht
  refine wpl rfl rfl ht (ev_build (vs := [.int .i64 n_, .slice A m c]) ht rfl bi_35 rfl rfl) ?_
  intro a ht
  refine wpl_alloc rfl rfl ht hm rfl zo_35 ?_
  intro b1 a ht w hm
  refine wpl_store_whole 0 rfl rfl ht hm rfl rfl rfl szn_35 rfl rfl (by simp [Value.oneCell']) ?_
  intro a ht w hm
  refine wpList_nil ?_
  refine then_normal ?_
  refine wp_seq ?_
  refine wp_seq ?_
  refine wpr ?_
  refine wpl rfl rfl ht (ev_load_agg (xs := [.int .i64 n_, .slice A m c]) ht rfl rfl ag_35 (hm.blk_all 0 rfl)) ?_
  intro a ht
  obtain ⟨t2, et2, H⟩ := bind_get H
  have hcall := impl_position_code__always.calls k _ _ A c m n_ list _ ((fun (hq : Ms _ _ _ ([] ++ [.blk b1 35 [.int .i64 n_, .slice A m c]]) _ _) => hq.lend (φp := [IntsAt A c m list]) (allRO_cons (hq.lendFact 0 rfl) (allRO_nil))) (hm.pick (own' := [] ++ [.blk b1 35 [.int .i64 n_, .slice A m c]]) [0] rfl (by decide))) et2
  refine wpl_call _ rfl rfl ht rfl rfl rfl rfl can_46 hcall ?_
  clear hcall
  rintro _ w ⟨rfl, hpost⟩ a ht
  replace hm := (hm.pick (own' := [] ++ [.blk b1 35 [.int .i64 n_, .slice A m c]]) [0] rfl (by decide)).backL hpost
  clear hpost
  refine wpl rfl rfl ht (ev_assign ht rfl rfl) ?_
  intro a ht
  refine wpList_nil ?_
  refine then_normal ?_
  refine wp_seq ?_
  refine wpr ?_
  refine wpl rfl rfl ht (ev_move ht rfl rfl) ?_
  intro a ht
  refine wpl rfl rfl ht (ev_cmp ht rfl rfl rfl rfl) ?_
  intro a ht
  refine wpList_nil ?_
  refine then_normal ?_
  by_cases h3 : t2 ≠ 0
  · replace H := ite_yes h3 H
    refine wpc_yes ht rfl (decide_eq_true h3) ?_
    refine wp_seq ?_
    refine wpr ?_
    refine wpl rfl rfl ht (ev_move ht rfl rfl) ?_
    intro a ht
    refine wpl rfl rfl ht (ev_assign ht rfl rfl) ?_
    intro a ht
    refine wpl rfl rfl ht (ev_assign ht rfl rfl) ?_
    intro a ht
    refine wpList_nil ?_
    refine then_normal ?_
    refine wp_ret ?_
    refine then_ret ?_
    have hres := ht.res (P := Try.prog) (w := w) (rs := [.tmp 4, .tmp 5]) (vs := [.slice none 0 0, .int .i64 t2]) (.tmp rfl (.tmp rfl .nil))
    replace hm : Ms _ _ _ (.vec none 0 2 1 0 (ints ([] : List Int)) :: _) _ w := hm.nilVec none 2 1
    obtain rfl := Option.some.inj H
    exact leave ht rfl hres ⟨none, 0, 0, rfl, ((hm.pick [0] rfl (by decide)).pickφ [] rfl).post fun _ h => h⟩
  · replace H := ite_no h3 H
    refine wpc_no ht rfl (decide_eq_false h3) ?_
    refine wp_skip ?_
    refine then_normal ?_
    refine wp_seq ?_
    refine wpr ?_
    refine wpl rfl rfl ht (ev_move ht rfl rfl) ?_
    intro a ht
    obtain ⟨t5, et5, H⟩ := bind_get H
    have hcall := slices_Clone_int64_int64.calls _ _ A c m list _ ((fun (hq : Ms _ _ _ ([] ++ [.blk b1 35 [.int .i64 n_, .slice A m c]]) _ _) => hq.lend (φp := [IntsAt A c m list]) (allRO_cons (hq.lendFact 0 rfl) (allRO_nil))) (hm.pick (own' := [] ++ [.blk b1 35 [.int .i64 n_, .slice A m c]]) [0] rfl (by decide))) et5
    refine wpl_call _ rfl rfl ht rfl rfl rfl rfl can_67 hcall ?_
    clear hcall
    rintro _ w ⟨A6, c7, m8, rfl, hpost⟩ a ht
    replace hm := (hm.pick (own' := [] ++ [.blk b1 35 [.int .i64 n_, .slice A m c]]) [0] rfl (by decide)).backL hpost
    clear hpost
    refine wpl rfl rfl ht (ev_assign ht rfl rfl) ?_
    intro a ht
    refine wpList_nil ?_
    refine then_normal ?_
    refine wp_seq ?_
    refine wp_seq ?_
    refine wpr ?_
    refine wpl rfl rfl ht (ev_move ht rfl rfl) ?_
    intro a ht
    replace hm : Ms _ _ _ _ (IntsAt none 0 0 ([] : List Int) :: _) w := hm.nilRow none 1
    obtain ⟨t10, et10, H⟩ := bind_get H
    have hcall := impl_orders.calls k _ _ none 0 0 n_ ([]) _ ((hm.pick (own' := [] ++ [.vec A6 c7 2 1 m8 (ints t5), .blk b1 35 [.int .i64 n_, .slice A m c]]) [0, 1] rfl (by decide)).give (passed := []) (rest := [.vec A6 c7 2 1 m8 (ints t5), .blk b1 35 [.int .i64 n_, .slice A m c]]) (φp := [IntsAt none 0 0 ([] : List Int)]) [0] rfl) et10
    refine wpl_call _ rfl rfl ht rfl rfl rfl rfl can_68 hcall ?_
    clear hcall
    rintro _ w ⟨A11, c12, m13, vs14, rfl, hpost⟩ a ht
    replace hm := (hm.pick (own' := [] ++ [.vec A6 c7 2 1 m8 (ints t5), .blk b1 35 [.int .i64 n_, .slice A m c]]) [0, 1] rfl (by decide)).back hpost
    clear hpost
    refine wpl rfl rfl ht (ev_len_rows ht rfl rfl und_52 (hm.rowsOf 0 0 rfl rfl)) ?_
    intro a ht
    refine wpl rfl rfl ht (ev_move ht rfl rfl) ?_
    intro a ht
    refine wpList_nil ?_
    refine then_normal ?_
    refine wp_block ?_
    refine wpLoop (fun q a w => ∃ (ls0_4 : List Int) (xs0_5 : Int) (As0_1 : Option Addr) (cs0_2 : Nat) (ms0_3 : Nat), impl_LeastPosition.l0 q n_ list t10 ls0_4 xs0_5 = some r ∧ q ≤ k ∧ Tm 39 [(4, .slice none 0 0), (5, .int .i64 0), (6, .pointer (some ⟨b1, 0, none⟩)), (8, .slice As0_1 ms0_3 cs0_2), (23, .slice A11 m13 c12), (24, .int .i64 (t10.length : Int)), (25, .int .i64 xs0_5)] a ∧ Ms X (fps []) w0 [.vec A11 c12 22 1 m13 vs14, .vec As0_1 cs0_2 2 1 ms0_3 (ints ls0_4), .blk b1 35 [.int .i64 n_, .slice A m c]] [AllInts vs14 t10, IntsAt A c m list] w) (k0 := k) ⟨t5, 0, A6, c7, m8, H, Nat.le_refl _, ht.sub ⟨rfl, rfl, rfl, rfl, rfl, rfl, rfl, trivial⟩, (hm.pick [0, 1, 2] rfl (by decide)).pickφ [0, 2] rfl⟩ ?_
    clear H ht hm
    intro q15 a w hJ
    obtain ⟨ls0_4, xs0_5, As0_1, cs0_2, ms0_3, H, hqq15, ht, hm⟩ := hJ
    cases q15 with
    | zero => cases H
    | succ q15 =>
    rw [impl_LeastPosition.l0] at H
    refine wp_seq ?_
    refine wpr ?_
    refine wpl rfl rfl ht (ev_cmp ht rfl rfl rfl rfl) ?_
    intro a ht
    refine wpList_nil ?_
    refine then_normal ?_
    refine wp_seq ?_
    by_cases h16 : xs0_5 < (t10.length : Int)
    · replace H := ite_yes h16 H
      refine wpc_yes ht rfl (decide_eq_true h16) ?_
      refine wp_skip ?_
      refine then_normal ?_
      refine wp_seq ?_
      refine wp_block ?_
      refine wp_seq ?_
      refine wpr ?_
      obtain ⟨l17, el17, H⟩ := bind_get H
      refine wpl rfl rfl ht (ev_index_rows ht rfl rfl rfl so_52 (hm.rowsOf 0 0 rfl rfl) el17) ?_
      intro a ht
      obtain ⟨A18, c19, m20, hv21, hI⟩ := rowsAt_get (hm.rowsOf 0 0 rfl rfl) el17
      refine wpl rfl rfl ht (ev_load ht rfl rfl sc_22 (RowsAt.cell (hm.rowsOf 0 0 rfl rfl) hv21)) ?_
      intro a ht
      replace hm : Ms _ _ _ _ (IntsAt A18 c19 m20 l17 :: _) w := hm.addφ ((hm.ro 0 rfl).mono fun w h => allInts_at h hv21 el17)
      clear hI
      refine wpl rfl rfl ht (ev_assign ht rfl rfl) ?_
      intro a ht
      refine wpList_nil ?_
      refine then_normal ?_
      refine wp_seq ?_
      refine wpr ?_
      refine wpl rfl rfl ht (ev_load_agg (xs := [.int .i64 n_, .slice A m c]) ht rfl rfl ag_35 (hm.blk_all 2 rfl)) ?_
      intro a ht
      refine wpl rfl rfl ht (ev_move ht rfl rfl) ?_
      intro a ht
      obtain ⟨t22, et22, H⟩ := bind_get H
      have hcall := impl_position_renumbered.calls q15 _ _ A c m A18 c19 m20 n_ list l17 _ ((fun (hq : Ms _ _ _ ([] ++ [.vec A11 c12 22 1 m13 vs14, .vec As0_1 cs0_2 2 1 ms0_3 (ints ls0_4), .blk b1 35 [.int .i64 n_, .slice A m c]]) _ _) => hq.lend (φp := [IntsAt A c m list, IntsAt A18 c19 m20 l17]) (allRO_cons (hq.lendFact 2 rfl) (allRO_cons (hq.lendFact 0 rfl) (allRO_nil)))) (hm.pick (own' := [] ++ [.vec A11 c12 22 1 m13 vs14, .vec As0_1 cs0_2 2 1 ms0_3 (ints ls0_4), .blk b1 35 [.int .i64 n_, .slice A m c]]) [0, 1, 2] rfl (by decide))) et22
      refine wpl_call _ rfl rfl ht rfl rfl rfl rfl can_69 hcall ?_
      clear hcall
      rintro _ w ⟨A23, c24, m25, rfl, hpost⟩ a ht
      replace hm := (hm.pick (own' := [] ++ [.vec A11 c12 22 1 m13 vs14, .vec As0_1 cs0_2 2 1 ms0_3 (ints ls0_4), .blk b1 35 [.int .i64 n_, .slice A m c]]) [0, 1, 2] rfl (by decide)).backL hpost
      clear hpost
      refine wpl rfl rfl ht (ev_assign ht rfl rfl) ?_
      intro a ht
      refine wpList_nil ?_
      refine then_normal ?_
      refine wp_seq ?_
      refine wpr ?_
      refine wpl rfl rfl ht (ev_move ht rfl rfl) ?_
      intro a ht
      refine wpl rfl rfl ht (ev_move ht rfl rfl) ?_
      intro a ht
      obtain ⟨t26, et26, H⟩ := bind_get H
      have hcall := slices_Compare_int64_int64.calls q15 _ _ A23 c24 m25 As0_1 cs0_2 ms0_3 t22 ls0_4 _ ((fun (hq : Ms _ _ _ ([] ++ [.vec A23 c24 2 1 m25 (ints t22), .vec A11 c12 22 1 m13 vs14, .vec As0_1 cs0_2 2 1 ms0_3 (ints ls0_4), .blk b1 35 [.int .i64 n_, .slice A m c]]) _ _) => hq.lend (φp := [IntsAt A23 c24 m25 t22, IntsAt As0_1 cs0_2 ms0_3 ls0_4]) (allRO_cons (hq.lendVec 0 rfl) (allRO_cons (hq.lendVec 2 rfl) (allRO_nil)))) (hm.pick (own' := [] ++ [.vec A23 c24 2 1 m25 (ints t22), .vec A11 c12 22 1 m13 vs14, .vec As0_1 cs0_2 2 1 ms0_3 (ints ls0_4), .blk b1 35 [.int .i64 n_, .slice A m c]]) [0, 1, 2, 3] rfl (by decide))) et26
      refine wpl_call _ rfl rfl ht rfl rfl rfl rfl can_70 hcall ?_
      clear hcall
      rintro _ w ⟨rfl, hpost⟩ a ht
      replace hm := (hm.pick (own' := [] ++ [.vec A23 c24 2 1 m25 (ints t22), .vec A11 c12 22 1 m13 vs14, .vec As0_1 cs0_2 2 1 ms0_3 (ints ls0_4), .blk b1 35 [.int .i64 n_, .slice A m c]]) [0, 1, 2, 3] rfl (by decide)).backL hpost
      clear hpost
      refine wpl rfl rfl ht (ev_cmp ht rfl rfl rfl rfl) ?_
      intro a ht
      refine wpList_nil ?_
      refine then_normal ?_
      by_cases h27 : t26 < 0
      · replace H := ite_yes h27 H
        refine wpc_yes ht rfl (decide_eq_true h27) ?_
        refine wpr ?_
        refine wpl rfl rfl ht (ev_move ht rfl rfl) ?_
        intro a ht
        refine wpl rfl rfl ht (ev_assign ht rfl rfl) ?_
        intro a ht
        refine wpList_nil ?_
        refine blk_normal ?_
        refine then_normal ?_
        refine wpr ?_
        refine wpl rfl rfl ht (ev_arith ht rfl rfl rfl rfl) ?_
        intro a ht
        refine wpl rfl rfl ht (ev_move ht rfl rfl) ?_
        intro a ht
        refine wpList_nil ?_
        replace hm := hm.pick (own' := [.vec A23 c24 2 1 m25 (ints t22), .vec A11 c12 22 1 m13 vs14, .blk b1 35 [.int .i64 n_, .slice A m c]]) [0, 1, 3] rfl (by decide)
        exact then_normal ⟨q15, by omega, t22, (w64 (xs0_5 + 1)), A23, c24, m25, H, by omega, ht.sub ⟨rfl, rfl, rfl, rfl, rfl, rfl, rfl, trivial⟩, (hm.pick [1, 0, 2] rfl (by decide)).pickφ [1, 2] rfl⟩
      · replace H := ite_no h27 H
        refine wpc_no ht rfl (decide_eq_false h27) ?_
        refine wp_skip ?_
        refine blk_normal ?_
        refine then_normal ?_
        refine wpr ?_
        refine wpl rfl rfl ht (ev_arith ht rfl rfl rfl rfl) ?_
        intro a ht
        refine wpl rfl rfl ht (ev_move ht rfl rfl) ?_
        intro a ht
        refine wpList_nil ?_
        exact then_normal ⟨q15, by omega, ls0_4, (w64 (xs0_5 + 1)), As0_1, cs0_2, ms0_3, H, by omega, ht.sub ⟨rfl, rfl, rfl, rfl, rfl, rfl, rfl, trivial⟩, (hm.pick [1, 2, 3] rfl (by decide)).pickφ [1, 2] rfl⟩
    · replace H := ite_no h16 H
      refine wpc_no ht rfl (decide_eq_false h16) ?_
      refine wp_exit ?_
      refine then_exit ?_
      refine then_exit ?_
      refine blk_hit ?_
      refine then_normal ?_
      refine wp_seq ?_
      refine wpr ?_
      refine wpl rfl rfl ht (ev_move ht rfl rfl) ?_
      intro a ht
      refine wpl rfl rfl ht (ev_assign ht rfl rfl) ?_
      intro a ht
      refine wpl rfl rfl ht (ev_assign ht rfl rfl) ?_
      intro a ht
      refine wpList_nil ?_
      refine then_normal ?_
      refine wp_ret ?_
      have hres := ht.res (P := Try.prog) (w := w) (rs := [.tmp 4, .tmp 5]) (vs := [.slice As0_1 ms0_3 cs0_2, .int .i64 0]) (.tmp rfl (.tmp rfl .nil))
      obtain rfl := Option.some.inj H
      exact leave ht rfl hres ⟨As0_1, cs0_2, ms0_3, rfl, ((hm.pick [1] rfl (by decide)).pickφ [] rfl).post fun _ h => h⟩

end Go.Proofs.Ytfbdcidedjocdaa.G
