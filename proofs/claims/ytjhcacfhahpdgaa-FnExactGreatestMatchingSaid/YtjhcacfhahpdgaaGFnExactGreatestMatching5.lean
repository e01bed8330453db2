/- What each Go function computes, as a Lean function, and the proof that it does: written by a program of this session (wip/gen), part 5. -/
import Derived.Test.YtjhcacfhahpdgaaGFnExactGreatestMatching4
namespace Go.Proofs.Ytjhcacfhahpdgaa.G
open Go Go.RowKit Go.Proofs.Ytjhcacfhahpdgaa.K
set_option linter.unusedVariables false
set_option linter.unusedSimpArgs false

/-! ### impl_Colouring_joins: function 46 ((*loop.example/g01362/impl.Colouring).joins) -/
def impl_Colouring_joins.f (x : Col) (i : Int) (j : Int) (c : Int) : Option (Bool) := if i ≠ j then ((impl_Colouring_at.f x i j).bind fun t2 => some (decide (t2 = c))) else (some false)
set_option maxRecDepth 100000 in
set_option maxHeartbeats 1000000 in
theorem impl_Colouring_joins.calls (X : List Nat) (w0 : World) (b : Nat) (x : Col) (i : Int) (j : Int) (c : Int) (r : Bool)
    (hp : Pre X w0 [.blk b 28 (Col.cells x)] []) (H : impl_Colouring_joins.f x i j c = some r) :
    Calls Try.prog 46 [.pointer (some ⟨b, 0, none⟩), .int .i64 i, .int .i64 j, .int .i64 c].toArray w0 (Ret fun v w => v = .bool r ∧ Post X (fps [.blk b 28 (Col.cells x)]) w0 [.blk b 28 (Col.cells x)] [] w) := by
  unfold impl_Colouring_joins.f at H
  refine enterM (n := 20) hp Try.func46 rfl rfl (Nat.le_of_ble_eq_true rfl) fun a w ht hm => ?_
  refine wp_seq ?_
  refine wpr ?_
  refine wpl rfl rfl ht (ev_assign ht rfl rfl) ?_
  intro a ht
  refine wpList_nil ?_
  refine then_normal ?_
  refine wp_seq ?_
  refine wpr ?_
  refine wpl rfl rfl ht (ev_move ht rfl rfl) ?_
  intro a ht
  refine wpl rfl rfl ht (ev_move ht rfl rfl) ?_
  intro a ht
  refine wpl rfl rfl ht (ev_cmp ht rfl rfl rfl rfl) ?_
  intro a ht
  refine wpl rfl rfl ht (ev_move ht rfl rfl) ?_
  intro a ht
  by_cases h1 : i ≠ j
  · replace H := ite_yes h1 H
    refine wpl_yes rfl ht rfl ((decide_eq_true h1)) ?_
    refine wpl rfl rfl ht (ev_move ht rfl rfl) ?_
    intro a ht
    refine wpl_yes rfl ht rfl ((decide_eq_true h1)) ?_
    refine wpl rfl rfl ht (ev_move ht rfl rfl) ?_
    intro a ht
    refine wpl_yes rfl ht rfl ((decide_eq_true h1)) ?_
    refine wpl rfl rfl ht (ev_move ht rfl rfl) ?_
    intro a ht
    refine wpl_yes rfl ht rfl ((decide_eq_true h1)) ?_
    obtain ⟨t2, et2, H⟩ := bind_get H
    have hcall := impl_Colouring_at.calls _ _ b x i j _ ((fun (hq : Ms _ _ _ ([.blk b 28 (Col.cells x)] ++ []) _ _) => hq.lend (φp := []) (allRO_nil)) (hm.pick (own' := [.blk b 28 (Col.cells x)] ++ []) [0] rfl (by decide))) et2
    refine wpl_call _ rfl rfl ht rfl rfl rfl rfl can_56 hcall ?_
    clear hcall
    rintro _ w ⟨rfl, hpost⟩ a ht
    replace hm := (hm.pick (own' := [.blk b 28 (Col.cells x)] ++ []) [0] rfl (by decide)).backL hpost
    clear hpost
    refine wpl_yes rfl ht rfl ((decide_eq_true h1)) ?_
    refine wpl rfl rfl ht (ev_move ht rfl rfl) ?_
    intro a ht
    refine wpl_yes rfl ht rfl ((decide_eq_true h1)) ?_
    refine wpl rfl rfl ht (ev_cmp ht rfl rfl rfl rfl) ?_
    intro a ht
    refine wpl rfl rfl ht (ev_pick_yes ht rfl rfl (decide_eq_true h1) rfl) ?_
    intro a ht
    refine wpl rfl rfl ht (ev_assign ht rfl rfl) ?_
    intro a ht
    refine wpList_nil ?_
    refine then_normal ?_
    refine wp_ret ?_
    have hres := ht.res (P := Try.prog) (w := w) (rs := [.tmp 8]) (vs := [.bool (decide (t2 = c))]) (.tmp rfl .nil)
    obtain rfl := Option.some.inj H
    exact leave ht rfl hres ⟨rfl, ((hm.pick [0] rfl (by decide)).pickφ [] rfl).post fun _ h => h⟩
  · replace H := ite_no h1 H
    refine wpl_no rfl rfl ht rfl (by rw [(decide_eq_false h1)]; decide) ?_
    intro a ht
    refine wpl_no rfl rfl ht rfl (by rw [(decide_eq_false h1)]; decide) ?_
    intro a ht
    refine wpl_no rfl rfl ht rfl (by rw [(decide_eq_false h1)]; decide) ?_
    intro a ht
    refine wpl_no rfl rfl ht rfl (by rw [(decide_eq_false h1)]; decide) ?_
    intro a ht
    refine wpl_no rfl rfl ht rfl (by rw [(decide_eq_false h1)]; decide) ?_
    intro a ht
    refine wpl_no rfl rfl ht rfl (by rw [(decide_eq_false h1)]; decide) ?_
    intro a ht
    refine wpl rfl rfl ht (ev_pick_no ht rfl rfl (decide_eq_false h1) rfl) ?_
    intro a ht
    refine wpl rfl rfl ht (ev_assign ht rfl rfl) ?_
    intro a ht
    refine wpList_nil ?_
    refine then_normal ?_
    refine wp_ret ?_
    have hres := ht.res (P := Try.prog) (w := w) (rs := [.tmp 8]) (vs := [.bool false]) (.tmp rfl .nil)
    obtain rfl := Option.some.inj H
    exact leave ht rfl hres ⟨rfl, ((hm.pick [0] rfl (by decide)).pickφ [] rfl).post fun _ h => h⟩

/-! ### impl_matcher_behind: function 45 ((*loop.example/g01362/impl.matcher).behind) -/
mutual
def impl_matcher_behind.l0 : Nat → Col → Int → List (Int × Int) → Int → Int → Option (Int × List (Int × Int))
  | 0, _, _, _, _, _ => none
  | q3 + 1, m, m2, m3, points, xs0_1 => (guardO (0 ≤ xs0_1)).bind fun _ => if (bitop .and .i64 (shrI .i64 points xs0_1) 1) = 0 then (impl_matcher_behind.l0 q3 m m2 m3 points (w64 (xs0_1 + 1))) else ((guardO (0 ≤ xs0_1)).bind fun _ => (impl_matcher_behind.f q3 m m2 m3 (bitop .andNot .i64 points (shlI .i64 1 xs0_1))).bind fun t7 => impl_matcher_behind.l1 q3 m m2 points xs0_1 t7.2 t7.1 (w64 (xs0_1 + 1)))
def impl_matcher_behind.l1 : Nat → Col → Int → Int → Int → List (Int × Int) → Int → Int → Option (Int × List (Int × Int))
  | 0, _, _, _, _, _, _, _ => none
  | q8 + 1, m, m2, points, xs0_1, ms1_1, xs1_2, xs1_3 => if xs1_3 < m.p then ((guardO (0 ≤ xs1_3)).bind fun _ => if (bitop .and .i64 (shrI .i64 (bitop .andNot .i64 points (shlI .i64 1 xs0_1)) xs1_3) 1) = 1 then ((impl_Colouring_joins.f m xs0_1 xs1_3 m2).bind fun t12 => if t12 = true then ((guardO (0 ≤ xs1_3)).bind fun _ => (impl_matcher_behind.f q8 m m2 ms1_1 (bitop .andNot .i64 (bitop .andNot .i64 points (shlI .i64 1 xs0_1)) (shlI .i64 1 xs1_3))).bind fun t15 => impl_matcher_behind.l1 q8 m m2 points xs0_1 t15.2 (max xs1_2 (w64 (t15.1 + 1))) (w64 (xs1_3 + 1))) else (impl_matcher_behind.l1 q8 m m2 points xs0_1 ms1_1 xs1_2 (w64 (xs1_3 + 1)))) else (impl_matcher_behind.l1 q8 m m2 points xs0_1 ms1_1 xs1_2 (w64 (xs1_3 + 1)))) else (some (xs1_2, kvPut ms1_1 points xs1_2))
def impl_matcher_behind.f : Nat → Col → Int → List (Int × Int) → Int → Option (Int × List (Int × Int))
  | 0, _, _, _, _ => none
  | k + 1, m, m2, m3, points => if points = 0 then (some (0, m3)) else (if ((kvGet m3 points).isSome) = true then (some ((kvGet m3 points).getD 0, m3)) else (impl_matcher_behind.l0 k m m2 m3 points 0))
end
set_option maxRecDepth 100000 in
set_option maxHeartbeats 1000000 in
theorem impl_matcher_behind.calls (k : Nat) (X : List Nat) (w0 : World) (b : Nat) (b2 : Nat) (b3 : Nat) (m : Col) (m2 : Int) (m3 : List (Int × Int)) (points : Int) (r : Int × List (Int × Int))
    (hp : Pre X w0 [.blk b 66 [.pointer (some ⟨b2, 0, none⟩), .int .i64 m2, .map (some b3)], .blk b2 28 (Col.cells m), .kv b3 (kvI m3)] []) (H : impl_matcher_behind.f k m m2 m3 points = some r) :
    Calls Try.prog 45 [.pointer (some ⟨b, 0, none⟩), .int .i64 points].toArray w0 (Ret fun v w => v = .int .i64 r.1 ∧ Post X (fps [.blk b 66 [.pointer (some ⟨b2, 0, none⟩), .int .i64 m2, .map (some b3)], .blk b2 28 (Col.cells m), .kv b3 (kvI m3)]) w0 [.blk b 66 [.pointer (some ⟨b2, 0, none⟩), .int .i64 m2, .map (some b3)], .blk b2 28 (Col.cells m), .kv b3 (kvI r.2)] [] w) := by
  induction k using Nat.strongRecOn generalizing X w0 b b2 b3 m m2 m3 points r with
  | _ k ih =>
  cases k with
  | zero => cases H
  | succ k =>
  rw [impl_matcher_behind.f] at H
  refine enterM (n := 85) hp Try.func45 rfl rfl (Nat.le_of_ble_eq_true rfl) fun a w ht hm => ?_
  induction k using Nat.strongRecOn with
  | _ k ih =>
  refine wp_seq ?_
  refine wpr ?_
  refine wpl rfl rfl ht (ev_assign ht rfl rfl) ?_
  intro a ht
  refine wpList_nil ?_
  refine then_normal ?_
  refine wp_seq ?_
  refine wp_seq ?_
  refine wpr ?_
  refine wpl rfl rfl ht (ev_move ht rfl rfl) ?_
  intro a ht
  refine wpl rfl rfl ht (ev_cmp ht rfl rfl rfl rfl) ?_
  intro a ht
  refine wpList_nil ?_
  refine then_normal ?_
  by_cases h1 : points = 0
  · replace H := ite_yes h1 H
    refine wpc_yes ht rfl (decide_eq_true h1) ?_
    refine wp_seq ?_
    refine wpr ?_
    refine wpl rfl rfl ht (ev_assign ht rfl rfl) ?_
    intro a ht
    refine wpList_nil ?_
    refine then_normal ?_
    refine wp_ret ?_
    refine then_ret ?_
    have hres := ht.res (P := Try.prog) (w := w) (rs := [.tmp 4]) (vs := [.int .i64 0]) (.tmp rfl .nil)
    obtain rfl := Option.some.inj H
    exact leave ht rfl hres ⟨rfl, ((hm.pick [0, 1, 2] rfl (by decide)).pickφ [] rfl).post fun _ h => h⟩
  · replace H := ite_no h1 H
    refine wpc_no ht rfl (decide_eq_false h1) ?_
    refine wp_skip ?_
    refine then_normal ?_
    refine wp_seq ?_
    refine wp_seq ?_
    refine wpr ?_
    refine wpl rfl rfl ht (ev_move ht rfl rfl) ?_
    intro a ht
    refine wpl rfl rfl ht (ev_nilCheck ht rfl rfl) ?_
    intro a ht
    refine wpl rfl rfl ht (ev_fieldAddr ht rfl rfl fo_66_2) ?_
    intro a ht
    refine wpl rfl rfl ht (ev_load ht rfl rfl sc_64 (hm.blk_cell 0 rfl rfl)) ?_
    intro a ht
    refine wpl rfl rfl ht (ev_move ht rfl rfl) ?_
    intro a ht
    refine wpl rfl rfl ht (ev_lookup (f := fun k : Int => Value.int .i64 k) (m := m3) (k := points) 2 ht hm rfl rfl rfl mu_64 (keyI und_2) zv_2 rfl) ?_
    intro a ht
    refine wpl rfl rfl ht (ev_move ht rfl rfl) ?_
    intro a ht
    refine wpl rfl rfl ht (ev_extract ht rfl rfl rfl) ?_
    intro a ht
    refine wpl rfl rfl ht (ev_extract ht rfl rfl rfl) ?_
    intro a ht
    refine wpl rfl rfl ht (ev_assign ht rfl rfl) ?_
    intro a ht
    refine wpl rfl rfl ht (ev_assign ht rfl rfl) ?_
    intro a ht
    refine wpList_nil ?_
    refine then_normal ?_
    refine wp_seq ?_
    refine wpr ?_
    refine wpl rfl rfl ht (ev_move ht rfl rfl) ?_
    intro a ht
    refine wpList_nil ?_
    refine then_normal ?_
    by_cases h2 : ((kvGet m3 points).isSome) = true
    · replace H := ite_yes h2 H
      refine wpc_yes ht rfl h2 ?_
      refine wp_seq ?_
      refine wpr ?_
      refine wpl rfl rfl ht (ev_move ht rfl rfl) ?_
      intro a ht
      refine wpl rfl rfl ht (ev_assign ht rfl rfl) ?_
      intro a ht
      refine wpList_nil ?_
      refine then_normal ?_
      refine wp_ret ?_
      refine then_ret ?_
      have hres := ht.res (P := Try.prog) (w := w) (rs := [.tmp 4]) (vs := [.int .i64 ((kvGet m3 points).getD 0)]) (.tmp rfl .nil)
      obtain rfl := Option.some.inj H
      exact leave ht rfl hres ⟨rfl, ((hm.pick [0, 1, 2] rfl (by decide)).pickφ [] rfl).post fun _ h => h⟩
    · replace H := ite_no h2 H
      refine wpc_no ht rfl (Bool.eq_false_iff.mpr h2) ?_
      refine wp_skip ?_
      refine then_normal ?_
      refine wp_seq ?_
      refine wpr ?_
      refine wpl rfl rfl ht (ev_assign ht rfl rfl) ?_
      intro a ht
      refine wpList_nil ?_
      refine then_normal ?_
      refine wp_seq ?_
      refine wp_block ?_
      refine wpLoop (fun q a w => ∃ (xs0_1 : Int), impl_matcher_behind.l0 q m m2 m3 points xs0_1 = some r ∧ q ≤ k ∧ Tm 85 [(0, .pointer (some ⟨b, 0, none⟩)), (1, .int .i64 points), (4, .int .i64 0), (7, .int .i64 xs0_1)] a ∧ Ms X (fps [.blk b 66 [.pointer (some ⟨b2, 0, none⟩), .int .i64 m2, .map (some b3)], .blk b2 28 (Col.cells m), .kv b3 (kvI m3)]) w0 [.blk b 66 [.pointer (some ⟨b2, 0, none⟩), .int .i64 m2, .map (some b3)], .blk b2 28 (Col.cells m), .kv b3 (kvI m3)] [] w) (k0 := k) ⟨0, H, Nat.le_refl _, ht.sub ⟨rfl, rfl, rfl, rfl, trivial⟩, (hm.pick [0, 1, 2] rfl (by decide)).pickφ [] rfl⟩ ?_
      clear H ht hm
      intro q3 a w hJ
      obtain ⟨xs0_1, H, hqq3, ht, hm⟩ := hJ
      cases q3 with
      | zero => cases H
      | succ q3 =>
      rw [impl_matcher_behind.l0] at H
      refine wp_seq ?_
      refine wp_seq ?_
      refine wpr ?_
      refine wpl rfl rfl ht (ev_move ht rfl rfl) ?_
      intro a ht
      refine wpl rfl rfl ht (ev_move ht rfl rfl) ?_
      intro a ht
      obtain ⟨u4, eu4, H⟩ := bind_get H
      refine wpl rfl rfl ht (ev_shr ht rfl rfl rfl (guardO_get eu4)) ?_
      intro a ht
      refine wpl rfl rfl ht (ev_bit ht rfl rfl rfl rfl) ?_
      intro a ht
      refine wpl rfl rfl ht (ev_cmp ht rfl rfl rfl rfl) ?_
      intro a ht
      refine wpList_nil ?_
      refine then_normal ?_
      by_cases h5 : (bitop .and .i64 (shrI .i64 points xs0_1) 1) = 0
      · replace H := ite_yes h5 H
        refine wpc_yes ht rfl (decide_eq_true h5) ?_
        refine wp_skip ?_
        refine then_normal ?_
        refine wp_block ?_
        refine wpr ?_
        refine wpl rfl rfl ht (ev_move ht rfl rfl) ?_
        intro a ht
        refine wpl rfl rfl ht (ev_arith ht rfl rfl rfl rfl) ?_
        intro a ht
        refine wpl rfl rfl ht (ev_assign ht rfl rfl) ?_
        intro a ht
        refine wpList_nil ?_
        refine blk_normal ?_
        exact then_normal ⟨q3, by omega, (w64 (xs0_1 + 1)), H, by omega, ht.sub ⟨rfl, rfl, rfl, rfl, trivial⟩, (hm.pick [0, 1, 2] rfl (by decide)).pickφ [] rfl⟩
      · replace H := ite_no h5 H
        refine wpc_no ht rfl (decide_eq_false h5) ?_
        refine wp_exit ?_
        refine then_exit ?_
        refine then_exit ?_
        refine blk_hit ?_
        refine then_normal ?_
        refine wp_seq ?_
        refine wpr ?_
        refine wpl rfl rfl ht (ev_move ht rfl rfl) ?_
        intro a ht
        refine wpl rfl rfl ht (ev_move ht rfl rfl) ?_
        intro a ht
        obtain ⟨u6, eu6, H⟩ := bind_get H
        refine wpl rfl rfl ht (ev_shl ht rfl rfl rfl (guardO_get eu6)) ?_
        intro a ht
        refine wpl rfl rfl ht (ev_bit ht rfl rfl rfl rfl) ?_
        intro a ht
        refine wpl rfl rfl ht (ev_assign ht rfl rfl) ?_
        intro a ht
        refine wpList_nil ?_
        refine then_normal ?_
        refine wp_seq ?_
        refine wpr ?_
        refine wpl rfl rfl ht (ev_move ht rfl rfl) ?_
        intro a ht
        refine wpl rfl rfl ht (ev_move ht rfl rfl) ?_
        intro a ht
        obtain ⟨t7, et7, H⟩ := bind_get H
        have hcall := ih q3 (by omega) _ _ b b2 b3 m m2 m3 (bitop .andNot .i64 points (shlI .i64 1 xs0_1)) _ ((fun (hq : Ms _ _ _ ([.blk b 66 [.pointer (some ⟨b2, 0, none⟩), .int .i64 m2, .map (some b3)], .blk b2 28 (Col.cells m), .kv b3 (kvI m3)] ++ []) _ _) => hq.lend (φp := []) (allRO_nil)) (hm.pick (own' := [.blk b 66 [.pointer (some ⟨b2, 0, none⟩), .int .i64 m2, .map (some b3)], .blk b2 28 (Col.cells m), .kv b3 (kvI m3)] ++ []) [0, 1, 2] rfl (by decide))) et7
        refine wpl_call _ rfl rfl ht rfl rfl rfl rfl can_45 hcall ?_
        clear hcall
        rintro _ w ⟨rfl, hpost⟩ a ht
        replace hm := (hm.pick (own' := [.blk b 66 [.pointer (some ⟨b2, 0, none⟩), .int .i64 m2, .map (some b3)], .blk b2 28 (Col.cells m), .kv b3 (kvI m3)] ++ []) [0, 1, 2] rfl (by decide)).backL hpost
        clear hpost
        refine wpl rfl rfl ht (ev_assign ht rfl rfl) ?_
        intro a ht
        refine wpList_nil ?_
        refine then_normal ?_
        refine wp_seq ?_
        refine wp_seq ?_
        refine wpr ?_
        refine wpl rfl rfl ht (ev_move ht rfl rfl) ?_
        intro a ht
        refine wpl rfl rfl ht (ev_arith ht rfl rfl rfl rfl) ?_
        intro a ht
        refine wpl rfl rfl ht (ev_assign ht rfl rfl) ?_
        intro a ht
        refine wpList_nil ?_
        refine then_normal ?_
        refine wp_block ?_
        refine wpLoop (fun q a w => ∃ (ms1_1 : List (Int × Int)) (xs1_2 : Int) (xs1_3 : Int), impl_matcher_behind.l1 q m m2 points xs0_1 ms1_1 xs1_2 xs1_3 = some r ∧ q ≤ q3 ∧ Tm 85 [(0, .pointer (some ⟨b, 0, none⟩)), (1, .int .i64 points), (4, .int .i64 0), (7, .int .i64 xs0_1), (8, .int .i64 (bitop .andNot .i64 points (shlI .i64 1 xs0_1))), (9, .int .i64 xs1_2), (10, .int .i64 xs1_3)] a ∧ Ms X (fps [.blk b 66 [.pointer (some ⟨b2, 0, none⟩), .int .i64 m2, .map (some b3)], .blk b2 28 (Col.cells m), .kv b3 (kvI m3)]) w0 [.blk b 66 [.pointer (some ⟨b2, 0, none⟩), .int .i64 m2, .map (some b3)], .blk b2 28 (Col.cells m), .kv b3 (kvI ms1_1)] [] w) (k0 := q3) ⟨t7.2, t7.1, (w64 (xs0_1 + 1)), H, Nat.le_refl _, ht.sub ⟨rfl, rfl, rfl, rfl, rfl, rfl, rfl, trivial⟩, (hm.pick [0, 1, 2] rfl (by decide)).pickφ [] rfl⟩ ?_
        clear H ht hm
        intro q8 a w hJ
        obtain ⟨ms1_1, xs1_2, xs1_3, H, hqq8, ht, hm⟩ := hJ
        cases q8 with
        | zero => cases H
        | succ q8 =>
        rw [impl_matcher_behind.l1] at H
        refine wp_seq ?_
        refine wp_seq ?_
        refine wpr ?_
        refine wpl rfl rfl ht (ev_move ht rfl rfl) ?_
        intro a ht
        refine wpl rfl rfl ht (ev_move ht rfl rfl) ?_
        intro a ht
        refine wpl rfl rfl ht (ev_nilCheck ht rfl rfl) ?_
        intro a ht
        refine wpl rfl rfl ht (ev_fieldAddr ht rfl rfl fo_66_0) ?_
        intro a ht
        refine wpl rfl rfl ht (ev_load ht rfl rfl sc_55 (hm.blk_cell 0 rfl rfl)) ?_
        intro a ht
        refine wpl rfl rfl ht (ev_nilCheck ht rfl rfl) ?_
        intro a ht
        refine wpl rfl rfl ht (ev_fieldAddr ht rfl rfl fo_28_0) ?_
        intro a ht
        refine wpl rfl rfl ht (ev_load ht rfl rfl sc_2 (hm.blk_cell 1 rfl rfl)) ?_
        intro a ht
        refine wpl rfl rfl ht (ev_cmp ht rfl rfl rfl rfl) ?_
        intro a ht
        refine wpList_nil ?_
        refine then_normal ?_
        by_cases h9 : xs1_3 < m.p
        · replace H := ite_yes h9 H
          refine wpc_yes ht rfl (decide_eq_true h9) ?_
          refine wp_skip ?_
          refine then_normal ?_
          refine wp_seq ?_
          refine wp_block ?_
          refine wp_seq ?_
          refine wph_begin (fun w => Ms X (fps [.blk b 66 [.pointer (some ⟨b2, 0, none⟩), .int .i64 m2, .map (some b3)], .blk b2 28 (Col.cells m), .kv b3 (kvI m3)]) w0 [.blk b 66 [.pointer (some ⟨b2, 0, none⟩), .int .i64 m2, .map (some b3)], .blk b2 28 (Col.cells m), .kv b3 (kvI ms1_1)] [] w) mixed ?_
          replace hm := hm.drew
          have hS : Ms X (fps [.blk b 66 [.pointer (some ⟨b2, 0, none⟩), .int .i64 m2, .map (some b3)], .blk b2 28 (Col.cells m), .kv b3 (kvI m3)]) w0 [.blk b 66 [.pointer (some ⟨b2, 0, none⟩), .int .i64 m2, .map (some b3)], .blk b2 28 (Col.cells m), .kv b3 (kvI ms1_1)] [] w.drew := (hm.pick [0, 1, 2] rfl (by decide)).pickφ [] rfl
          generalize w.drew = w at hm hS ⊢
          refine wph_take (i := 0) rfl (by kernel_rfl) (by kernel_rfl) (by kernel_rfl) (fun _ _ _ h => h) rfl ht hS (wanted_plain rfl) (fun w hm => ev_move ht rfl rfl) ?_
          intro a ht
          refine wph_take (i := 1) rfl (by kernel_rfl) (by kernel_rfl) (by kernel_rfl) (fun _ _ _ h => h) rfl ht hS (wanted_plain rfl) (fun w hm => ev_move ht rfl rfl) ?_
          intro a ht
          obtain ⟨u10, eu10, H⟩ := bind_get H
          refine wph_take (i := 2) rfl (by kernel_rfl) (by kernel_rfl) (by kernel_rfl) (fun _ _ _ h => h) rfl ht hS (wanted_plain rfl) (fun w hm => ev_shr ht rfl rfl rfl (guardO_get eu10)) ?_
          intro a ht
          refine wph_take (i := 3) rfl (by kernel_rfl) (by kernel_rfl) (by kernel_rfl) (fun _ _ _ h => h) rfl ht hS (wanted_plain rfl) (fun w hm => ev_bit ht rfl rfl rfl rfl) ?_
          intro a ht
          refine wph_take (i := 4) rfl (by kernel_rfl) (by kernel_rfl) (by kernel_rfl) (fun _ _ _ h => h) rfl ht hS (wanted_plain rfl) (fun w hm => ev_cmp ht rfl rfl rfl rfl) ?_
          intro a ht
          refine wph_take (i := 5) rfl (by kernel_rfl) (by kernel_rfl) (by kernel_rfl) (fun _ _ _ h => h) rfl ht hS (wanted_plain rfl) (fun w hm => ev_move ht rfl rfl) ?_
          intro a ht
          by_cases h11 : (bitop .and .i64 (shrI .i64 (bitop .andNot .i64 points (shlI .i64 1 xs0_1)) xs1_3) 1) = 1
          · replace H := ite_yes h11 H
            refine wph_take (i := 6) rfl (by kernel_rfl) (by kernel_rfl) (by kernel_rfl) (fun _ _ _ h => h) rfl ht hS (wanted_yes rfl ht rfl ((decide_eq_true h11))) (fun w hm => ev_move ht rfl rfl) ?_
            intro a ht
            refine wph_take (i := 7) rfl (by kernel_rfl) (by kernel_rfl) (by kernel_rfl) (fun _ _ _ h => h) rfl ht hS (wanted_yes rfl ht rfl ((decide_eq_true h11))) (fun w hm => ev_nilCheck ht rfl rfl) ?_
            intro a ht
            refine wph_take (i := 8) rfl (by kernel_rfl) (by kernel_rfl) (by kernel_rfl) (fun _ _ _ h => h) rfl ht hS (wanted_yes rfl ht rfl ((decide_eq_true h11))) (fun w hm => ev_fieldAddr ht rfl rfl fo_66_0) ?_
            intro a ht
            refine wph_take (i := 9) rfl (by kernel_rfl) (by kernel_rfl) (by kernel_rfl) (fun _ _ _ h => h) rfl ht hS (wanted_yes rfl ht rfl ((decide_eq_true h11))) (fun w hm => ev_load ht rfl rfl sc_55 (hm.blk_cell 0 rfl rfl)) ?_
            intro a ht
            refine wph_take (i := 10) rfl (by kernel_rfl) (by kernel_rfl) (by kernel_rfl) (fun _ _ _ h => h) rfl ht hS (wanted_yes rfl ht rfl ((decide_eq_true h11))) (fun w hm => ev_move ht rfl rfl) ?_
            intro a ht
            refine wph_take (i := 11) rfl (by kernel_rfl) (by kernel_rfl) (by kernel_rfl) (fun _ _ _ h => h) rfl ht hS (wanted_yes rfl ht rfl ((decide_eq_true h11))) (fun w hm => ev_move ht rfl rfl) ?_
            intro a ht
            refine wph_take (i := 12) rfl (by kernel_rfl) (by kernel_rfl) (by kernel_rfl) (fun _ _ _ h => h) rfl ht hS (wanted_yes rfl ht rfl ((decide_eq_true h11))) (fun w hm => ev_move ht rfl rfl) ?_
            intro a ht
            refine wph_take (i := 13) rfl (by kernel_rfl) (by kernel_rfl) (by kernel_rfl) (fun _ _ _ h => h) rfl ht hS (wanted_yes rfl ht rfl ((decide_eq_true h11))) (fun w hm => ev_nilCheck ht rfl rfl) ?_
            intro a ht
            refine wph_take (i := 14) rfl (by kernel_rfl) (by kernel_rfl) (by kernel_rfl) (fun _ _ _ h => h) rfl ht hS (wanted_yes rfl ht rfl ((decide_eq_true h11))) (fun w hm => ev_fieldAddr ht rfl rfl fo_66_1) ?_
            intro a ht
            refine wph_take (i := 15) rfl (by kernel_rfl) (by kernel_rfl) (by kernel_rfl) (fun _ _ _ h => h) rfl ht hS (wanted_yes rfl ht rfl ((decide_eq_true h11))) (fun w hm => ev_load ht rfl rfl sc_2 (hm.blk_cell 0 rfl rfl)) ?_
            intro a ht
            refine wph_one (i := 16) (by kernel_rfl) (wph_step rfl ?_)
            refine wpl_yes rfl ht rfl ((decide_eq_true h11)) ?_
            obtain ⟨t12, et12, H⟩ := bind_get H
            have hcall := impl_Colouring_joins.calls _ _ b2 m xs0_1 xs1_3 m2 _ ((fun (hq : Ms _ _ _ ([.blk b2 28 (Col.cells m)] ++ [.blk b 66 [.pointer (some ⟨b2, 0, none⟩), .int .i64 m2, .map (some b3)], .kv b3 (kvI ms1_1)]) _ _) => hq.lend (φp := []) (allRO_nil)) (hm.pick (own' := [.blk b2 28 (Col.cells m)] ++ [.blk b 66 [.pointer (some ⟨b2, 0, none⟩), .int .i64 m2, .map (some b3)], .kv b3 (kvI ms1_1)]) [1, 0, 2] rfl (by decide))) et12
            refine wpl_call _ rfl rfl ht rfl rfl rfl rfl can_46 hcall ?_
            clear hcall
            rintro _ w ⟨rfl, hpost⟩ a ht
            replace hm := (hm.pick (own' := [.blk b2 28 (Col.cells m)] ++ [.blk b 66 [.pointer (some ⟨b2, 0, none⟩), .int .i64 m2, .map (some b3)], .kv b3 (kvI ms1_1)]) [1, 0, 2] rfl (by decide)).backL hpost
            clear hpost
            have hS : Ms X (fps [.blk b 66 [.pointer (some ⟨b2, 0, none⟩), .int .i64 m2, .map (some b3)], .blk b2 28 (Col.cells m), .kv b3 (kvI m3)]) w0 [.blk b 66 [.pointer (some ⟨b2, 0, none⟩), .int .i64 m2, .map (some b3)], .blk b2 28 (Col.cells m), .kv b3 (kvI ms1_1)] [] w := (hm.pick [1, 0, 2] rfl (by decide)).pickφ [] rfl
            refine wpList_nil (qn ⟨hS, ?_⟩)
            refine wph_take (i := 17) rfl (by kernel_rfl) (by kernel_rfl) (by kernel_rfl) (fun _ _ _ h => h) rfl ht hS (wanted_plain rfl) (fun w hm => ev_pick_yes ht rfl rfl (decide_eq_true h11) rfl) ?_
            intro a ht
            refine wph_done (by kernel_rfl) ?_
            refine then_normal ?_
            by_cases h13 : t12 = true
            · replace H := ite_yes h13 H
              refine wpc_yes ht rfl h13 ?_
              refine wpr ?_
              refine wpl rfl rfl ht (ev_move ht rfl rfl) ?_
              intro a ht
              refine wpl rfl rfl ht (ev_move ht rfl rfl) ?_
              intro a ht
              refine wpl rfl rfl ht (ev_move ht rfl rfl) ?_
              intro a ht
              refine wpl rfl rfl ht (ev_move ht rfl rfl) ?_
              intro a ht
              obtain ⟨u14, eu14, H⟩ := bind_get H
              refine wpl rfl rfl ht (ev_shl ht rfl rfl rfl (guardO_get eu14)) ?_
              intro a ht
              refine wpl rfl rfl ht (ev_bit ht rfl rfl rfl rfl) ?_
              intro a ht
              obtain ⟨t15, et15, H⟩ := bind_get H
              have hcall := ih q8 (by omega) _ _ b b2 b3 m m2 ms1_1 (bitop .andNot .i64 (bitop .andNot .i64 points (shlI .i64 1 xs0_1)) (shlI .i64 1 xs1_3)) _ ((fun (hq : Ms _ _ _ ([.blk b 66 [.pointer (some ⟨b2, 0, none⟩), .int .i64 m2, .map (some b3)], .blk b2 28 (Col.cells m), .kv b3 (kvI ms1_1)] ++ []) _ _) => hq.lend (φp := []) (allRO_nil)) (hm.pick (own' := [.blk b 66 [.pointer (some ⟨b2, 0, none⟩), .int .i64 m2, .map (some b3)], .blk b2 28 (Col.cells m), .kv b3 (kvI ms1_1)] ++ []) [1, 0, 2] rfl (by decide))) et15
              refine wpl_call _ rfl rfl ht rfl rfl rfl rfl can_45 hcall ?_
              clear hcall
              rintro _ w ⟨rfl, hpost⟩ a ht
              replace hm := (hm.pick (own' := [.blk b 66 [.pointer (some ⟨b2, 0, none⟩), .int .i64 m2, .map (some b3)], .blk b2 28 (Col.cells m), .kv b3 (kvI ms1_1)] ++ []) [1, 0, 2] rfl (by decide)).backL hpost
              clear hpost
              refine wpl rfl rfl ht (ev_arith ht rfl rfl rfl rfl) ?_
              intro a ht
              refine wpl rfl rfl ht (ev_max ht rfl rfl rfl) ?_
              intro a ht
              refine wpl rfl rfl ht (ev_assign ht rfl rfl) ?_
              intro a ht
              refine wpList_nil ?_
              refine blk_normal ?_
              refine then_normal ?_
              refine wpr ?_
              refine wpl rfl rfl ht (ev_move ht rfl rfl) ?_
              intro a ht
              refine wpl rfl rfl ht (ev_arith ht rfl rfl rfl rfl) ?_
              intro a ht
              refine wpl rfl rfl ht (ev_assign ht rfl rfl) ?_
              intro a ht
              refine wpList_nil ?_
              exact then_normal ⟨q8, by omega, t15.2, (max xs1_2 (w64 (t15.1 + 1))), (w64 (xs1_3 + 1)), H, by omega, ht.sub ⟨rfl, rfl, rfl, rfl, rfl, rfl, rfl, trivial⟩, (hm.pick [0, 1, 2] rfl (by decide)).pickφ [] rfl⟩
            · replace H := ite_no h13 H
              refine wpc_no ht rfl (Bool.eq_false_iff.mpr h13) ?_
              refine wp_skip ?_
              refine blk_normal ?_
              refine then_normal ?_
              refine wpr ?_
              refine wpl rfl rfl ht (ev_move ht rfl rfl) ?_
              intro a ht
              refine wpl rfl rfl ht (ev_arith ht rfl rfl rfl rfl) ?_
              intro a ht
              refine wpl rfl rfl ht (ev_assign ht rfl rfl) ?_
              intro a ht
              refine wpList_nil ?_
              exact then_normal ⟨q8, by omega, ms1_1, xs1_2, (w64 (xs1_3 + 1)), H, by omega, ht.sub ⟨rfl, rfl, rfl, rfl, rfl, rfl, rfl, trivial⟩, (hm.pick [1, 0, 2] rfl (by decide)).pickφ [] rfl⟩
          · replace H := ite_no h11 H
            refine wph_pass (i := 6) rfl (by kernel_rfl) (by kernel_rfl) (by kernel_rfl) (fun _ _ _ h => h) rfl ht hS (wanted_no rfl ht rfl (by rw [(decide_eq_false h11)]; decide)) ?_
            intro a ht
            refine wph_pass (i := 7) rfl (by kernel_rfl) (by kernel_rfl) (by kernel_rfl) (fun _ _ _ h => h) rfl ht hS (wanted_no rfl ht rfl (by rw [(decide_eq_false h11)]; decide)) ?_
            intro a ht
            refine wph_pass (i := 8) rfl (by kernel_rfl) (by kernel_rfl) (by kernel_rfl) (fun _ _ _ h => h) rfl ht hS (wanted_no rfl ht rfl (by rw [(decide_eq_false h11)]; decide)) ?_
            intro a ht
            refine wph_pass (i := 9) rfl (by kernel_rfl) (by kernel_rfl) (by kernel_rfl) (fun _ _ _ h => h) rfl ht hS (wanted_no rfl ht rfl (by rw [(decide_eq_false h11)]; decide)) ?_
            intro a ht
            refine wph_pass (i := 10) rfl (by kernel_rfl) (by kernel_rfl) (by kernel_rfl) (fun _ _ _ h => h) rfl ht hS (wanted_no rfl ht rfl (by rw [(decide_eq_false h11)]; decide)) ?_
            intro a ht
            refine wph_pass (i := 11) rfl (by kernel_rfl) (by kernel_rfl) (by kernel_rfl) (fun _ _ _ h => h) rfl ht hS (wanted_no rfl ht rfl (by rw [(decide_eq_false h11)]; decide)) ?_
            intro a ht
            refine wph_pass (i := 12) rfl (by kernel_rfl) (by kernel_rfl) (by kernel_rfl) (fun _ _ _ h => h) rfl ht hS (wanted_no rfl ht rfl (by rw [(decide_eq_false h11)]; decide)) ?_
            intro a ht
            refine wph_pass (i := 13) rfl (by kernel_rfl) (by kernel_rfl) (by kernel_rfl) (fun _ _ _ h => h) rfl ht hS (wanted_no rfl ht rfl (by rw [(decide_eq_false h11)]; decide)) ?_
            intro a ht
            refine wph_pass (i := 14) rfl (by kernel_rfl) (by kernel_rfl) (by kernel_rfl) (fun _ _ _ h => h) rfl ht hS (wanted_no rfl ht rfl (by rw [(decide_eq_false h11)]; decide)) ?_
            intro a ht
            refine wph_pass (i := 15) rfl (by kernel_rfl) (by kernel_rfl) (by kernel_rfl) (fun _ _ _ h => h) rfl ht hS (wanted_no rfl ht rfl (by rw [(decide_eq_false h11)]; decide)) ?_
            intro a ht
            refine wph_pass (i := 16) rfl (by kernel_rfl) (by kernel_rfl) (by kernel_rfl) (fun _ _ _ h => h) rfl ht hS (wanted_no rfl ht rfl (by rw [(decide_eq_false h11)]; decide)) ?_
            intro a ht
            refine wph_take (i := 17) rfl (by kernel_rfl) (by kernel_rfl) (by kernel_rfl) (fun _ _ _ h => h) rfl ht hS (wanted_plain rfl) (fun w hm => ev_pick_no ht rfl rfl (decide_eq_false h11) rfl) ?_
            intro a ht
            refine wph_done (by kernel_rfl) ?_
            refine then_normal ?_
            refine wpc_no ht rfl rfl ?_
            refine wp_skip ?_
            refine blk_normal ?_
            refine then_normal ?_
            refine wpr ?_
            refine wpl rfl rfl ht (ev_move ht rfl rfl) ?_
            intro a ht
            refine wpl rfl rfl ht (ev_arith ht rfl rfl rfl rfl) ?_
            intro a ht
            refine wpl rfl rfl ht (ev_assign ht rfl rfl) ?_
            intro a ht
            refine wpList_nil ?_
            exact then_normal ⟨q8, by omega, ms1_1, xs1_2, (w64 (xs1_3 + 1)), H, by omega, ht.sub ⟨rfl, rfl, rfl, rfl, rfl, rfl, rfl, trivial⟩, (hm.pick [0, 1, 2] rfl (by decide)).pickφ [] rfl⟩
        · replace H := ite_no h9 H
          refine wpc_no ht rfl (decide_eq_false h9) ?_
          refine wp_exit ?_
          refine then_exit ?_
          refine then_exit ?_
          refine blk_hit ?_
          refine then_normal ?_
          refine wp_seq ?_
          refine wpr ?_
          refine wpl rfl rfl ht (ev_move ht rfl rfl) ?_
          intro a ht
          refine wpl rfl rfl ht (ev_nilCheck ht rfl rfl) ?_
          intro a ht
          refine wpl rfl rfl ht (ev_fieldAddr ht rfl rfl fo_66_2) ?_
          intro a ht
          refine wpl rfl rfl ht (ev_load ht rfl rfl sc_64 (hm.blk_cell 0 rfl rfl)) ?_
          intro a ht
          refine wpl rfl rfl ht (ev_move ht rfl rfl) ?_
          intro a ht
          refine wpl rfl rfl ht (ev_move ht rfl rfl) ?_
          intro a ht
          refine wpl_mapUpdate (f := fun k : Int => Value.int .i64 k) (m := ms1_1) (k := points) (v := xs1_2) 2 rfl rfl ht hm rfl rfl rfl rfl mu_64 (keyI und_2) rfl ?_
          intro a ht w hm
          refine wpList_nil ?_
          refine then_normal ?_
          refine wp_seq ?_
          refine wpr ?_
          refine wpl rfl rfl ht (ev_move ht rfl rfl) ?_
          intro a ht
          refine wpl rfl rfl ht (ev_assign ht rfl rfl) ?_
          intro a ht
          refine wpList_nil ?_
          refine then_normal ?_
          refine wp_ret ?_
          have hres := ht.res (P := Try.prog) (w := w) (rs := [.tmp 4]) (vs := [.int .i64 xs1_2]) (.tmp rfl .nil)
          obtain rfl := Option.some.inj H
          exact leave ht rfl hres ⟨rfl, ((hm.pick [0, 1, 2] rfl (by decide)).pickφ [] rfl).post fun _ h => h⟩

end Go.Proofs.Ytjhcacfhahpdgaa.G
