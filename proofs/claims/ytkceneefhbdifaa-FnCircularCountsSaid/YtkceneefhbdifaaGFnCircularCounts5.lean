/- What each Go function computes, as a Lean function, and the proof that it does: written by a program of this session (wip/gen), part 5. -/
import Derived.Test.YtkceneefhbdifaaGFnCircularCounts4
namespace Go.Proofs.Ytkceneefhbdifaa.G
open Go Go.RowKit Go.Proofs.Ytkceneefhbdifaa.K
set_option linter.unusedVariables false
set_option linter.unusedSimpArgs false

/-! ### impl_circulars: function 20 (loop.example/g01362/impl.circulars) -/
mutual
def impl_circulars.l0 : Nat → Int → List Int → List Col → Int → Option (List Col)
  | 0, _, _, _, _ => none
  | q3 + 1, n_, sizes, ls0_4, xs0_5 => if xs0_5 < (shlI .i64 1 (w64 (Int.tdiv n_ 2))) then (impl_circulars.l1 q3 n_ sizes ls0_4 xs0_5 ([] : List Int) (w64 ((w64 (Int.tdiv n_ 2)) - 1))) else (some ls0_4)
def impl_circulars.l1 : Nat → Int → List Int → List Col → Int → List Int → Int → Option (List Col)
  | 0, _, _, _, _, _, _ => none
  | q6 + 1, n_, sizes, ls0_4, xs0_5, ls1_4, xs1_5 => if xs1_5 ≥ 0 then ((guardO (0 ≤ xs1_5)).bind fun _ => (push ls1_4 (bitop .and .i64 (shrI .i64 xs0_5 xs1_5) 1)).bind fun l13 => impl_circulars.l1 q6 n_ sizes ls0_4 xs0_5 l13 (w64 (xs1_5 - 1))) else ((impl_circularOf.f q6 n_ 2 ls1_4).bind fun t14 => (impl_Colouring_avoids.f q6 t14 sizes).bind fun t16 => if t16 = true then ((pushC ls0_4 t14).bind fun l22 => impl_circulars.l0 q6 n_ sizes l22 (w64 (xs0_5 + 1))) else (impl_circulars.l0 q6 n_ sizes ls0_4 (w64 (xs0_5 + 1))))
end
def impl_circulars.f (k : Nat) (n_ : Int) (sizes : List Int) : Option (List Col) := (guardO (0 ≤ (w64 (Int.tdiv n_ 2)))).bind fun _ => impl_circulars.l0 k n_ sizes ([] : List Col) 0
set_option maxRecDepth 100000 in
set_option maxHeartbeats 20000000 in
theorem impl_circulars.calls (k : Nat) (X : List Nat) (w0 : World) (A : Option Addr) (c : Nat) (m : Nat) (n_ : Int) (sizes : List Int) (r : List Col)
    (hp : Pre X w0 [] [IntsAt A c m sizes]) (H : impl_circulars.f k n_ sizes = some r) :
    Calls Try.prog 20 [.int .i64 n_, .slice A m c].toArray w0 (Ret fun v w => ∃ (A_0 : Option Addr) (c_0 : Nat) (n_0 : Nat), v = .slice A_0 n_0 c_0 ∧ Post X (fps []) w0 [.vec A_0 c_0 29 138 n_0 (colsC r)] [] w) := by
  unfold impl_circulars.f at H
  refine enterM (n := 43) hp Try.func20 rfl rfl (Nat.le_of_ble_eq_true rfl) fun a w ht hm => ?_
  refine wp_seq ?_
  refine wpr ?_
  refine wpl rfl rfl ht (ev_assign ht rfl rfl) ?_
  intro a ht
  refine wpList_nil ?_
  refine then_normal ?_
  refine wp_seq ?_
  refine wpr ?_
  refine wpl_build_cols0 (Z := []) rfl rfl ht hm rfl und_46 szn_29 ?_
  intro A1 a ht w hm
  refine wpl rfl rfl ht (ev_assign ht rfl rfl) ?_
  intro a ht
  refine wpList_nil ?_
  refine then_normal ?_
  refine wp_seq ?_
  refine wp_seq ?_
  refine wpr ?_
  refine wpl rfl rfl ht (ev_move ht rfl rfl) ?_
  intro a ht
  refine wpl rfl rfl ht (ev_quo ht rfl rfl rfl (by decide)) ?_
  intro a ht
  obtain ⟨u2, eu2, H⟩ := bind_get H
  refine wpl rfl rfl ht (ev_shl ht rfl rfl rfl (guardO_get eu2)) ?_
  intro a ht
  refine wpl rfl rfl ht (ev_move ht rfl rfl) ?_
  intro a ht
  refine wpList_nil ?_
  refine then_normal ?_
  refine wp_block ?_
  refine wpLoop (fun q a w => ∃ (ls0_4 : List Col) (xs0_5 : Int) (As0_1 : Option Addr) (cs0_2 : Nat) (ms0_3 : Nat), impl_circulars.l0 q n_ sizes ls0_4 xs0_5 = some r ∧ q ≤ k ∧ Tm 43 [(0, .int .i64 n_), (1, .slice A m c), (4, .slice none 0 0), (5, .slice As0_1 ms0_3 cs0_2), (13, .int .i64 (shlI .i64 1 (w64 (Int.tdiv n_ 2)))), (14, .int .i64 xs0_5)] a ∧ Ms X (fps []) w0 [.vec As0_1 cs0_2 29 138 ms0_3 (colsC ls0_4)] [IntsAt A c m sizes] w) (k0 := k) ⟨([] : List Col), 0, A1, 0, 0, H, Nat.le_refl _, ht.sub ⟨rfl, rfl, rfl, rfl, rfl, rfl, trivial⟩, (hm.pick [0] rfl (by decide)).pickφ [0] rfl⟩ ?_
  clear H ht hm
  intro q3 a w hJ
  obtain ⟨ls0_4, xs0_5, As0_1, cs0_2, ms0_3, H, hqq3, ht, hm⟩ := hJ
  cases q3 with
  | zero => cases H
  | succ q3 =>
  rw [impl_circulars.l0] at H
  refine wp_seq ?_
  refine wpr ?_
  refine wpl rfl rfl ht (ev_cmp ht rfl rfl rfl rfl) ?_
  intro a ht
  refine wpList_nil ?_
  refine then_normal ?_
  refine wp_seq ?_
  by_cases h4 : xs0_5 < (shlI .i64 1 (w64 (Int.tdiv n_ 2)))
  · replace H := ite_yes h4 H
    refine wpc_yes ht rfl (decide_eq_true h4) ?_
    refine wp_skip ?_
    refine then_normal ?_
    refine wp_seq ?_
    refine wp_block ?_
    refine wp_seq ?_
    refine wpr ?_
    refine wpl rfl rfl ht (ev_move ht rfl rfl) ?_
    intro a ht
    refine wpl rfl rfl ht (ev_assign ht rfl rfl) ?_
    intro a ht
    refine wpList_nil ?_
    refine then_normal ?_
    refine wp_seq ?_
    refine wpr ?_
    refine wpl_build_ints (l := ([] : List Int)) rfl rfl ht hm rfl und_24 zo_2 sz1_2 (by decide) rfl rfl rfl ?_
    intro A5 a ht w hm
    refine wpl rfl rfl ht (ev_assign ht rfl rfl) ?_
    intro a ht
    refine wpList_nil ?_
    refine then_normal ?_
    refine wp_seq ?_
    refine wp_seq ?_
    refine wpr ?_
    refine wpl rfl rfl ht (ev_move ht rfl rfl) ?_
    intro a ht
    refine wpl rfl rfl ht (ev_quo ht rfl rfl rfl (by decide)) ?_
    intro a ht
    refine wpl rfl rfl ht (ev_arith ht rfl rfl rfl rfl) ?_
    intro a ht
    refine wpl rfl rfl ht (ev_assign ht rfl rfl) ?_
    intro a ht
    refine wpList_nil ?_
    refine then_normal ?_
    refine wp_block ?_
    refine wpLoop (fun q a w => ∃ (ls1_4 : List Int) (xs1_5 : Int) (As1_1 : Option Addr) (cs1_2 : Nat) (ms1_3 : Nat), impl_circulars.l1 q n_ sizes ls0_4 xs0_5 ls1_4 xs1_5 = some r ∧ q ≤ q3 ∧ Tm 43 [(0, .int .i64 n_), (1, .slice A m c), (4, .slice none 0 0), (5, .slice As0_1 ms0_3 cs0_2), (6, .int .i64 xs0_5), (7, .slice As1_1 ms1_3 cs1_2), (13, .int .i64 (shlI .i64 1 (w64 (Int.tdiv n_ 2)))), (14, .int .i64 xs0_5), (15, .bool (decide (xs0_5 < (shlI .i64 1 (w64 (Int.tdiv n_ 2)))))), (16, .int .i64 xs0_5), (18, .int .i64 n_), (19, .int .i64 (w64 (Int.tdiv n_ 2))), (20, .int .i64 (w64 ((w64 (Int.tdiv n_ 2)) - 1))), (8, .int .i64 xs1_5)] a ∧ Ms X (fps []) w0 [.vec As1_1 cs1_2 2 1 ms1_3 (ints ls1_4), .vec As0_1 cs0_2 29 138 ms0_3 (colsC ls0_4)] [IntsAt A c m sizes] w) (k0 := q3) ⟨([] : List Int), (w64 ((w64 (Int.tdiv n_ 2)) - 1)), A5, 0, 0, H, Nat.le_refl _, ht.sub ⟨rfl, rfl, rfl, rfl, rfl, rfl, rfl, rfl, rfl, rfl, rfl, rfl, rfl, rfl, trivial⟩, (hm.pick [0, 1] rfl (by decide)).pickφ [0] rfl⟩ ?_
    clear H ht hm
    intro q6 a w hJ
    obtain ⟨ls1_4, xs1_5, As1_1, cs1_2, ms1_3, H, hqq6, ht, hm⟩ := hJ
    cases q6 with
    | zero => cases H
    | succ q6 =>
    rw [impl_circulars.l1] at H
    refine wp_seq ?_
    refine wp_seq ?_
    refine wpr ?_
    refine wpl rfl rfl ht (ev_move ht rfl rfl) ?_
    intro a ht
    refine wpl rfl rfl ht (ev_cmp ht rfl rfl rfl rfl) ?_
    intro a ht
    refine wpList_nil ?_
    refine then_normal ?_
    by_cases h7 : xs1_5 ≥ 0
    · replace H := ite_yes h7 H
      refine wpc_yes ht rfl (decide_eq_true h7) ?_
      refine wp_skip ?_
      refine then_normal ?_
      refine wp_seq ?_
      refine wp_block ?_
      refine wpr ?_
      refine wpl rfl rfl ht (ev_move ht rfl rfl) ?_
      intro a ht
      refine wpl rfl rfl ht (ev_move ht rfl rfl) ?_
      intro a ht
      refine wpl rfl rfl ht (ev_move ht rfl rfl) ?_
      intro a ht
      obtain ⟨u8, eu8, H⟩ := bind_get H
      refine wpl rfl rfl ht (ev_shr ht rfl rfl rfl (guardO_get eu8)) ?_
      intro a ht
      refine wpl rfl rfl ht (ev_bit ht rfl rfl rfl rfl) ?_
      intro a ht
      refine wpl_build_ints (l := [bitop .and .i64 (shrI .i64 xs0_5 xs1_5) 1]) rfl rfl ht hm rfl und_24 zo_2 sz1_2 (by decide) rfl rfl rfl ?_
      intro A9 a ht w hm
      obtain ⟨l13, el13, H⟩ := bind_get H
      refine wpl_push (r := l13) 1 0 rfl rfl ht hm rfl ap_24 rfl rfl rfl rfl el13 ?_
      intro A10 c11 m12 a ht w hm
      refine wpl rfl rfl ht (ev_assign ht rfl rfl) ?_
      intro a ht
      refine wpList_nil ?_
      refine blk_normal ?_
      refine then_normal ?_
      refine wpr ?_
      refine wpl rfl rfl ht (ev_move ht rfl rfl) ?_
      intro a ht
      refine wpl rfl rfl ht (ev_arith ht rfl rfl rfl rfl) ?_
      intro a ht
      refine wpl rfl rfl ht (ev_assign ht rfl rfl) ?_
      intro a ht
      refine wpList_nil ?_
      exact then_normal ⟨q6, by omega, l13, (w64 (xs1_5 - 1)), A10, c11, m12, H, by omega, ht.sub ⟨rfl, rfl, rfl, rfl, rfl, rfl, rfl, rfl, rfl, rfl, rfl, rfl, rfl, rfl, trivial⟩, (hm.pick [1, 2] rfl (by decide)).pickφ [0] rfl⟩
    · replace H := ite_no h7 H
      refine wpc_no ht rfl (decide_eq_false h7) ?_
      refine wp_exit ?_
      refine then_exit ?_
      refine then_exit ?_
      refine blk_hit ?_
      refine then_normal ?_
      refine wp_seq ?_
      refine wpr ?_
      refine wpl rfl rfl ht (ev_move ht rfl rfl) ?_
      intro a ht
      refine wpl rfl rfl ht (ev_move ht rfl rfl) ?_
      intro a ht
      obtain ⟨t14, et14, H⟩ := bind_get H
      have hcall := impl_circularOf.calls q6 _ _ As1_1 cs1_2 ms1_3 n_ 2 ls1_4 _ ((fun (hq : Ms _ _ _ ([] ++ [.vec As1_1 cs1_2 2 1 ms1_3 (ints ls1_4), .vec As0_1 cs0_2 29 138 ms0_3 (colsC ls0_4)]) _ _) => hq.lend (φp := [IntsAt As1_1 cs1_2 ms1_3 ls1_4]) (allRO_cons (hq.lendVec 0 rfl) (allRO_nil))) (hm.pick (own' := [] ++ [.vec As1_1 cs1_2 2 1 ms1_3 (ints ls1_4), .vec As0_1 cs0_2 29 138 ms0_3 (colsC ls0_4)]) [0, 1] rfl (by decide))) et14
      refine wpl_call _ rfl rfl ht rfl rfl rfl rfl can_33 hcall ?_
      clear hcall
      rintro _ w ⟨rfl, hpost⟩ a ht
      replace hm := (hm.pick (own' := [] ++ [.vec As1_1 cs1_2 2 1 ms1_3 (ints ls1_4), .vec As0_1 cs0_2 29 138 ms0_3 (colsC ls0_4)]) [0, 1] rfl (by decide)).backL hpost
      clear hpost
      refine wpl_alloc rfl rfl ht hm rfl zo_29 ?_
      intro b15 a ht w hm
      refine wpl_store_whole 0 rfl rfl ht hm rfl rfl rfl (szn_29.trans (by first | rw [Col.length_cells] | rfl)) rfl (by simp only [Col.length_cells]) (Col.cells_one _) ?_
      intro a ht w hm
      refine wpList_nil ?_
      refine then_normal ?_
      refine wp_seq ?_
      refine wpr ?_
      refine wpl rfl rfl ht (ev_move ht rfl rfl) ?_
      intro a ht
      obtain ⟨t16, et16, H⟩ := bind_get H
      have hcall := impl_Colouring_avoids.calls q6 _ _ b15 A c m t14 sizes _ ((fun (hq : Ms _ _ _ ([.blk b15 29 (Col.cells t14)] ++ [.vec As1_1 cs1_2 2 1 ms1_3 (ints ls1_4), .vec As0_1 cs0_2 29 138 ms0_3 (colsC ls0_4)]) _ _) => hq.lend (φp := [IntsAt A c m sizes]) (allRO_cons (hq.lendFact 0 rfl) (allRO_nil))) (hm.pick (own' := [.blk b15 29 (Col.cells t14)] ++ [.vec As1_1 cs1_2 2 1 ms1_3 (ints ls1_4), .vec As0_1 cs0_2 29 138 ms0_3 (colsC ls0_4)]) [0, 1, 2] rfl (by decide))) et16
      refine wpl_call _ rfl rfl ht rfl rfl rfl rfl can_27 hcall ?_
      clear hcall
      rintro _ w ⟨rfl, hpost⟩ a ht
      replace hm := (hm.pick (own' := [.blk b15 29 (Col.cells t14)] ++ [.vec As1_1 cs1_2 2 1 ms1_3 (ints ls1_4), .vec As0_1 cs0_2 29 138 ms0_3 (colsC ls0_4)]) [0, 1, 2] rfl (by decide)).backL hpost
      clear hpost
      refine wpList_nil ?_
      refine then_normal ?_
      by_cases h17 : t16 = true
      · replace H := ite_yes h17 H
        refine wpc_yes ht rfl h17 ?_
        refine wpr ?_
        refine wpl rfl rfl ht (ev_move ht rfl rfl) ?_
        intro a ht
        refine wpl rfl rfl ht (ev_load_agg ht rfl rfl (ag_29.trans (by first | rw [Col.length_cells] | rfl)) (hm.blk_all 0 rfl)) ?_
        intro a ht
        refine wpl_build_cols1 (v := t14) rfl rfl ht hm rfl und_46 zo_29 szn_29 rfl ?_
        intro A18 a ht w hm
        obtain ⟨l22, el22, H⟩ := bind_get H
        refine wpl_push_cols (r := l22) 3 0 rfl rfl ht hm rfl ap_46 rfl rfl rfl rfl el22 ?_
        intro A19 c20 m21 a ht w hm
        refine wpl rfl rfl ht (ev_assign ht rfl rfl) ?_
        intro a ht
        refine wpList_nil ?_
        refine blk_normal ?_
        refine then_normal ?_
        refine wpr ?_
        refine wpl rfl rfl ht (ev_arith ht rfl rfl rfl rfl) ?_
        intro a ht
        refine wpl rfl rfl ht (ev_move ht rfl rfl) ?_
        intro a ht
        refine wpList_nil ?_
        exact then_normal ⟨q6, by omega, l22, (w64 (xs0_5 + 1)), A19, c20, m21, H, by omega, ht.sub ⟨rfl, rfl, rfl, rfl, rfl, rfl, trivial⟩, (hm.pick [3] rfl (by decide)).pickφ [0] rfl⟩
      · replace H := ite_no h17 H
        refine wpc_no ht rfl (Bool.eq_false_iff.mpr h17) ?_
        refine wp_skip ?_
        refine blk_normal ?_
        refine then_normal ?_
        refine wpr ?_
        refine wpl rfl rfl ht (ev_arith ht rfl rfl rfl rfl) ?_
        intro a ht
        refine wpl rfl rfl ht (ev_move ht rfl rfl) ?_
        intro a ht
        refine wpList_nil ?_
        exact then_normal ⟨q6, by omega, ls0_4, (w64 (xs0_5 + 1)), As0_1, cs0_2, ms0_3, H, by omega, ht.sub ⟨rfl, rfl, rfl, rfl, rfl, rfl, trivial⟩, (hm.pick [2] rfl (by decide)).pickφ [0] rfl⟩
  · replace H := ite_no h4 H
    refine wpc_no ht rfl (decide_eq_false h4) ?_
    refine wp_exit ?_
    refine then_exit ?_
    refine then_exit ?_
    refine blk_hit ?_
    refine then_normal ?_
    refine wp_seq ?_
    refine wpr ?_
    refine wpl rfl rfl ht (ev_move ht rfl rfl) ?_
    intro a ht
    refine wpl rfl rfl ht (ev_assign ht rfl rfl) ?_
    intro a ht
    refine wpList_nil ?_
    refine then_normal ?_
    refine wp_ret ?_
    have hres := ht.res (P := Try.prog) (w := w) (rs := [.tmp 4]) (vs := [.slice As0_1 ms0_3 cs0_2]) (.tmp rfl .nil)
    obtain rfl := Option.some.inj H
    exact leave ht rfl hres ⟨As0_1, cs0_2, ms0_3, rfl, ((hm.pick [0] rfl (by decide)).pickφ [] rfl).post fun _ h => h⟩

/-! ### impl_FirstCircular: function 6 (loop.example/g01362/impl.FirstCircular) -/
def impl_FirstCircular.f (k : Nat) (n_ : Int) (sizes : List Int) : Option (Col × Int) := (impl_in.f n_ 2 13).bind fun t2 => if t2 = true then ((impl_areTwo.f k sizes).bind fun t4 => if t4 = true then ((impl_circulars.f k n_ sizes).bind fun t6 => if (t6.length : Int) = 0 then (some (Col.zero, 4)) else ((getC t6 0).bind fun c11 => some (c11, 0))) else (some (Col.zero, 2))) else (some (Col.zero, 2))
set_option maxRecDepth 100000 in
set_option maxHeartbeats 20000000 in
theorem impl_FirstCircular.calls (k : Nat) (X : List Nat) (w0 : World) (A : Option Addr) (c : Nat) (m : Nat) (n_ : Int) (sizes : List Int) (r : Col × Int)
    (hp : Pre X w0 [] [IntsAt A c m sizes]) (H : impl_FirstCircular.f k n_ sizes = some r) :
    Calls Try.prog 6 [.int .i64 n_, .slice A m c].toArray w0 (Ret fun v w => v = .tuple [.agg (Col.cells r.1).toArray, .int .i64 r.2].toArray ∧ Post X (fps []) w0 [] [] w) := by
  unfold impl_FirstCircular.f at H
  refine enterM (n := 26) hp Try.func6 rfl rfl (Nat.le_of_ble_eq_true rfl) fun a w ht hm => ?_
  refine wp_seq ?_
  refine wpr ?_
  refine wpl_alloc rfl rfl ht hm rfl zo_29 ?_
  intro b1 a ht w hm
  refine wpl rfl rfl ht (ev_assign ht rfl rfl) ?_
  intro a ht
  refine wpList_nil ?_
  refine then_normal ?_
  refine wp_seq ?_
  refine wp_seq ?_
  refine wpr ?_
  refine wpl rfl rfl ht (ev_move ht rfl rfl) ?_
  intro a ht
  obtain ⟨t2, et2, H⟩ := bind_get H
  have hcall := impl_in.calls _ _ n_ 2 13 _ ((fun (hq : Ms _ _ _ ([] ++ [.blk b1 29 (Col.cells Col.zero)]) _ _) => hq.lend (φp := []) (allRO_nil)) (hm.pick (own' := [] ++ [.blk b1 29 (Col.cells Col.zero)]) [0] rfl (by decide))) et2
  refine wpl_call _ rfl rfl ht rfl rfl rfl rfl can_18 hcall ?_
  clear hcall
  rintro _ w ⟨rfl, hpost⟩ a ht
  replace hm := (hm.pick (own' := [] ++ [.blk b1 29 (Col.cells Col.zero)]) [0] rfl (by decide)).backL hpost
  clear hpost
  refine wpl rfl rfl ht (ev_not ht rfl rfl) ?_
  intro a ht
  refine wpl rfl rfl ht (ev_move ht rfl rfl) ?_
  intro a ht
  by_cases h3 : t2 = true
  · replace H := ite_yes h3 H
    refine wpl_yes rfl ht rfl ((not_t h3)) ?_
    refine wpl rfl rfl ht (ev_move ht rfl rfl) ?_
    intro a ht
    refine wpl_yes rfl ht rfl ((not_t h3)) ?_
    obtain ⟨t4, et4, H⟩ := bind_get H
    have hcall := impl_areTwo.calls k _ _ A c m sizes _ ((fun (hq : Ms _ _ _ ([] ++ [.blk b1 29 (Col.cells Col.zero)]) _ _) => hq.lend (φp := [IntsAt A c m sizes]) (allRO_cons (hq.lendFact 0 rfl) (allRO_nil))) (hm.pick (own' := [] ++ [.blk b1 29 (Col.cells Col.zero)]) [0] rfl (by decide))) et4
    refine wpl_call _ rfl rfl ht rfl rfl rfl rfl can_19 hcall ?_
    clear hcall
    rintro _ w ⟨rfl, hpost⟩ a ht
    replace hm := (hm.pick (own' := [] ++ [.blk b1 29 (Col.cells Col.zero)]) [0] rfl (by decide)).backL hpost
    clear hpost
    refine wpl_yes rfl ht rfl ((not_t h3)) ?_
    refine wpl rfl rfl ht (ev_not ht rfl rfl) ?_
    intro a ht
    refine wpl rfl rfl ht (ev_pick_no ht rfl rfl (not_t h3) rfl) ?_
    intro a ht
    refine wpList_nil ?_
    refine then_normal ?_
    by_cases h5 : t4 = true
    · replace H := ite_yes h5 H
      refine wpc_no ht rfl (not_t h5) ?_
      refine wp_skip ?_
      refine then_normal ?_
      refine wp_seq ?_
      refine wpr ?_
      refine wpl rfl rfl ht (ev_move ht rfl rfl) ?_
      intro a ht
      refine wpl rfl rfl ht (ev_move ht rfl rfl) ?_
      intro a ht
      obtain ⟨t6, et6, H⟩ := bind_get H
      have hcall := impl_circulars.calls k _ _ A c m n_ sizes _ ((fun (hq : Ms _ _ _ ([] ++ [.blk b1 29 (Col.cells Col.zero)]) _ _) => hq.lend (φp := [IntsAt A c m sizes]) (allRO_cons (hq.lendFact 0 rfl) (allRO_nil))) (hm.pick (own' := [] ++ [.blk b1 29 (Col.cells Col.zero)]) [0] rfl (by decide))) et6
      refine wpl_call _ rfl rfl ht rfl rfl rfl rfl can_20 hcall ?_
      clear hcall
      rintro _ w ⟨A7, c8, m9, rfl, hpost⟩ a ht
      replace hm := (hm.pick (own' := [] ++ [.blk b1 29 (Col.cells Col.zero)]) [0] rfl (by decide)).backL hpost
      clear hpost
      refine wpl rfl rfl ht (ev_assign ht rfl rfl) ?_
      intro a ht
      refine wpList_nil ?_
      refine then_normal ?_
      refine wp_seq ?_
      refine wp_seq ?_
      refine wpr ?_
      refine wpl rfl rfl ht (ev_move ht rfl rfl) ?_
      intro a ht
      refine wpl rfl rfl ht (ev_len_cols ht rfl rfl und_46 (hm.vec_row 0 rfl)) ?_
      intro a ht
      refine wpl rfl rfl ht (ev_cmp ht rfl rfl rfl rfl) ?_
      intro a ht
      refine wpList_nil ?_
      refine then_normal ?_
      by_cases h10 : (t6.length : Int) = 0
      · replace H := ite_yes h10 H
        refine wpc_yes ht rfl (decide_eq_true h10) ?_
        refine wp_seq ?_
        refine wpr ?_
        refine wpl rfl rfl ht (ev_build (vs := Col.cells Col.zero) ht rfl bi_29 rfl rfl) ?_
        intro a ht
        refine wpl_store_whole 1 rfl rfl ht hm rfl rfl rfl (szn_29.trans (by first | rw [Col.length_cells] | rfl)) rfl (by simp only [Col.length_cells]) (Col.cells_one _) ?_
        intro a ht w hm
        refine wpl rfl rfl ht (ev_assign ht rfl rfl) ?_
        intro a ht
        refine wpList_nil ?_
        refine then_normal ?_
        refine wp_ret ?_
        refine then_ret ?_
        have hres := ht.res (P := Try.prog) (w := w) (rs := [.cell 4 29, .tmp 5]) (vs := [.agg (Col.cells Col.zero).toArray, .int .i64 4]) (.agg rfl (ag_29.trans (by first | rw [Col.length_cells] | rfl)) (hm.blk_all 1 rfl) (.tmp rfl .nil))
        obtain rfl := Option.some.inj H
        exact leave ht rfl hres ⟨rfl, ((hm.pick [] rfl (by decide)).pickφ [] rfl).post fun _ h => h⟩
      · replace H := ite_no h10 H
        refine wpc_no ht rfl (decide_eq_false h10) ?_
        refine wp_skip ?_
        refine then_normal ?_
        refine wp_seq ?_
        refine wpr ?_
        refine wpl rfl rfl ht (ev_move ht rfl rfl) ?_
        intro a ht
        obtain ⟨c11, ec11, H⟩ := bind_get H
        refine wpl rfl rfl ht (ev_index_cols ht rfl rfl rfl so_46 (hm.vec_row 0 rfl) ec11) ?_
        intro a ht
        refine wpl rfl rfl ht (ev_load_cols (i := (0 : Int)) ht rfl rfl ag_29 (hm.vec_row 0 rfl) ec11) ?_
        intro a ht
        refine wpl_store_whole 1 rfl rfl ht hm rfl rfl rfl (szn_29.trans (by first | rw [Col.length_cells] | rfl)) rfl (by simp only [Col.length_cells]) (Col.cells_one _) ?_
        intro a ht w hm
        refine wpl rfl rfl ht (ev_assign ht rfl rfl) ?_
        intro a ht
        refine wpList_nil ?_
        refine then_normal ?_
        refine wp_ret ?_
        have hres := ht.res (P := Try.prog) (w := w) (rs := [.cell 4 29, .tmp 5]) (vs := [.agg (Col.cells c11).toArray, .int .i64 0]) (.agg rfl (ag_29.trans (by first | rw [Col.length_cells] | rfl)) (hm.blk_all 1 rfl) (.tmp rfl .nil))
        obtain rfl := Option.some.inj H
        exact leave ht rfl hres ⟨rfl, ((hm.pick [] rfl (by decide)).pickφ [] rfl).post fun _ h => h⟩
    · replace H := ite_no h5 H
      refine wpc_yes ht rfl (not_f (Bool.eq_false_iff.mpr h5)) ?_
      refine wp_seq ?_
      refine wpr ?_
      refine wpl rfl rfl ht (ev_build (vs := Col.cells Col.zero) ht rfl bi_29 rfl rfl) ?_
      intro a ht
      refine wpl_store_whole 0 rfl rfl ht hm rfl rfl rfl (szn_29.trans (by first | rw [Col.length_cells] | rfl)) rfl (by simp only [Col.length_cells]) (Col.cells_one _) ?_
      intro a ht w hm
      refine wpl rfl rfl ht (ev_assign ht rfl rfl) ?_
      intro a ht
      refine wpList_nil ?_
      refine then_normal ?_
      refine wp_ret ?_
      refine then_ret ?_
      have hres := ht.res (P := Try.prog) (w := w) (rs := [.cell 4 29, .tmp 5]) (vs := [.agg (Col.cells Col.zero).toArray, .int .i64 2]) (.agg rfl (ag_29.trans (by first | rw [Col.length_cells] | rfl)) (hm.blk_all 0 rfl) (.tmp rfl .nil))
      obtain rfl := Option.some.inj H
      exact leave ht rfl hres ⟨rfl, ((hm.pick [] rfl (by decide)).pickφ [] rfl).post fun _ h => h⟩
  · replace H := ite_no h3 H
    refine wpl_no rfl rfl ht rfl (by rw [(not_f (Bool.eq_false_iff.mpr h3))]; decide) ?_
    intro a ht
    refine wpl_no rfl rfl ht rfl (by rw [(not_f (Bool.eq_false_iff.mpr h3))]; decide) ?_
    intro a ht
    refine wpl_no rfl rfl ht rfl (by rw [(not_f (Bool.eq_false_iff.mpr h3))]; decide) ?_
    intro a ht
    refine wpl rfl rfl ht (ev_pick_yes ht rfl rfl (not_f (Bool.eq_false_iff.mpr h3)) rfl) ?_
    intro a ht
    refine wpList_nil ?_
    refine then_normal ?_
    refine wpc_yes ht rfl rfl ?_
    refine wp_seq ?_
    refine wpr ?_
    refine wpl rfl rfl ht (ev_build (vs := Col.cells Col.zero) ht rfl bi_29 rfl rfl) ?_
    intro a ht
    refine wpl_store_whole 0 rfl rfl ht hm rfl rfl rfl (szn_29.trans (by first | rw [Col.length_cells] | rfl)) rfl (by simp only [Col.length_cells]) (Col.cells_one _) ?_
    intro a ht w hm
    refine wpl rfl rfl ht (ev_assign ht rfl rfl) ?_
    intro a ht
    refine wpList_nil ?_
    refine then_normal ?_
    refine wp_ret ?_
    refine then_ret ?_
    have hres := ht.res (P := Try.prog) (w := w) (rs := [.cell 4 29, .tmp 5]) (vs := [.agg (Col.cells Col.zero).toArray, .int .i64 2]) (.agg rfl (ag_29.trans (by first | rw [Col.length_cells] | rfl)) (hm.blk_all 0 rfl) (.tmp rfl .nil))
    obtain rfl := Option.some.inj H
    exact leave ht rfl hres ⟨rfl, ((hm.pick [] rfl (by decide)).pickφ [] rfl).post fun _ h => h⟩

/-! ### spec_l01In: function 34 (loop.example/g01362/spec.l01In) -/
def spec_l01In.f (n_ : Int) (low : Int) (high : Int) : Option (Bool) := if n_ ≥ low then (some (decide (n_ ≤ high))) else (some false)
set_option maxRecDepth 100000 in
set_option maxHeartbeats 20000000 in
theorem spec_l01In.calls (X : List Nat) (w0 : World)  (n_ : Int) (low : Int) (high : Int) (r : Bool)
    (hp : Pre X w0 [] []) (H : spec_l01In.f n_ low high = some r) :
    Calls Try.prog 34 [.int .i64 n_, .int .i64 low, .int .i64 high].toArray w0 (Ret fun v w => v = .bool r ∧ Post X (fps []) w0 [] [] w) := by
  unfold spec_l01In.f at H
  refine enterM (n := 15) hp Try.func34 rfl rfl (Nat.le_of_ble_eq_true rfl) fun a w ht hm => ?_
  refine wp_seq ?_
  refine wpr ?_
  refine wpl rfl rfl ht (ev_assign ht rfl rfl) ?_
  intro a ht
  refine wpList_nil ?_
  refine then_normal ?_
  refine wp_seq ?_
  refine wpr ?_
  refine wpl rfl rfl ht (ev_move ht rfl rfl) ?_
  intro a ht
  refine wpl rfl rfl ht (ev_move ht rfl rfl) ?_
  intro a ht
  refine wpl rfl rfl ht (ev_cmp ht rfl rfl rfl rfl) ?_
  intro a ht
  refine wpl rfl rfl ht (ev_move ht rfl rfl) ?_
  intro a ht
  by_cases h1 : n_ ≥ low
  · replace H := ite_yes h1 H
    refine wpl_yes rfl ht rfl ((decide_eq_true h1)) ?_
    refine wpl rfl rfl ht (ev_move ht rfl rfl) ?_
    intro a ht
    refine wpl_yes rfl ht rfl ((decide_eq_true h1)) ?_
    refine wpl rfl rfl ht (ev_move ht rfl rfl) ?_
    intro a ht
    refine wpl_yes rfl ht rfl ((decide_eq_true h1)) ?_
    refine wpl rfl rfl ht (ev_cmp ht rfl rfl rfl rfl) ?_
    intro a ht
    refine wpl rfl rfl ht (ev_pick_yes ht rfl rfl (decide_eq_true h1) rfl) ?_
    intro a ht
    refine wpl rfl rfl ht (ev_assign ht rfl rfl) ?_
    intro a ht
    refine wpList_nil ?_
    refine then_normal ?_
    refine wp_ret ?_
    have hres := ht.res (P := Try.prog) (w := w) (rs := [.tmp 6]) (vs := [.bool (decide (n_ ≤ high))]) (.tmp rfl .nil)
    obtain rfl := Option.some.inj H
    exact leave ht rfl hres ⟨rfl, ((hm.pick [] rfl (by decide)).pickφ [] rfl).post fun _ h => h⟩
  · replace H := ite_no h1 H
    refine wpl_no rfl rfl ht rfl (by rw [(decide_eq_false h1)]; decide) ?_
    intro a ht
    refine wpl_no rfl rfl ht rfl (by rw [(decide_eq_false h1)]; decide) ?_
    intro a ht
    refine wpl_no rfl rfl ht rfl (by rw [(decide_eq_false h1)]; decide) ?_
    intro a ht
    refine wpl rfl rfl ht (ev_pick_no ht rfl rfl (decide_eq_false h1) rfl) ?_
    intro a ht
    refine wpl rfl rfl ht (ev_assign ht rfl rfl) ?_
    intro a ht
    refine wpList_nil ?_
    refine then_normal ?_
    refine wp_ret ?_
    have hres := ht.res (P := Try.prog) (w := w) (rs := [.tmp 6]) (vs := [.bool false]) (.tmp rfl .nil)
    obtain rfl := Option.some.inj H
    exact leave ht rfl hres ⟨rfl, ((hm.pick [] rfl (by decide)).pickφ [] rfl).post fun _ h => h⟩

/-! ### spec_l03Code: function 21 (loop.example/g01362/spec.l03Code) -/
def spec_l03Code.f (n_ : Int) (sizes : List Int) : Option (Int) := (spec_l01In.f n_ 2 13).bind fun t1 => if t1 = true then (if (sizes.length : Int) ≠ 2 then (some 2) else ((getI sizes 0).bind fun t4 => (spec_l01In.f t4 2 6).bind fun t5 => if t5 = true then ((getI sizes 1).bind fun t7 => (spec_l01In.f t7 2 6).bind fun t8 => if t8 = true then (some 0) else (some 2)) else (some 2))) else (some 2)
set_option maxRecDepth 100000 in
set_option maxHeartbeats 20000000 in
theorem spec_l03Code.calls (X : List Nat) (w0 : World) (A : Option Addr) (c : Nat) (m : Nat) (n_ : Int) (sizes : List Int) (r : Int)
    (hp : Pre X w0 [] [IntsAt A c m sizes]) (H : spec_l03Code.f n_ sizes = some r) :
    Calls Try.prog 21 [.int .i64 n_, .slice A m c].toArray w0 (Ret fun v w => v = .int .i64 r ∧ Post X (fps []) w0 [] [] w) := by
  unfold spec_l03Code.f at H
  refine enterM (n := 27) hp Try.func21 rfl rfl (Nat.le_of_ble_eq_true rfl) fun a w ht hm => ?_
  refine wp_seq ?_
  refine wpr ?_
  refine wpl rfl rfl ht (ev_assign ht rfl rfl) ?_
  intro a ht
  refine wpList_nil ?_
  refine then_normal ?_
  refine wp_seq ?_
  refine wp_seq ?_
  refine wpr ?_
  refine wpl rfl rfl ht (ev_move ht rfl rfl) ?_
  intro a ht
  obtain ⟨t1, et1, H⟩ := bind_get H
  have hcall := spec_l01In.calls _ _ n_ 2 13 _ ((fun (hq : Ms _ _ _ ([] ++ []) _ _) => hq.lend (φp := []) (allRO_nil)) (hm.pick (own' := [] ++ []) [] rfl (by decide))) et1
  refine wpl_call _ rfl rfl ht rfl rfl rfl rfl can_34 hcall ?_
  clear hcall
  rintro _ w ⟨rfl, hpost⟩ a ht
  replace hm := (hm.pick (own' := [] ++ []) [] rfl (by decide)).backL hpost
  clear hpost
  refine wpl rfl rfl ht (ev_not ht rfl rfl) ?_
  intro a ht
  refine wpl rfl rfl ht (ev_move ht rfl rfl) ?_
  intro a ht
  by_cases h2 : t1 = true
  · replace H := ite_yes h2 H
    refine wpl_yes rfl ht rfl ((not_t h2)) ?_
    refine wpl rfl rfl ht (ev_move ht rfl rfl) ?_
    intro a ht
    refine wpl_yes rfl ht rfl ((not_t h2)) ?_
    refine wpl rfl rfl ht (ev_len_of ht rfl rfl und_24 (hm.fact (φ := IntsAt A c m sizes) 0 rfl)) ?_
    intro a ht
    refine wpl_yes rfl ht rfl ((not_t h2)) ?_
    refine wpl rfl rfl ht (ev_cmp ht rfl rfl rfl rfl) ?_
    intro a ht
    refine wpl rfl rfl ht (ev_pick_no ht rfl rfl (not_t h2) rfl) ?_
    intro a ht
    refine wpl rfl rfl ht (ev_move ht rfl rfl) ?_
    intro a ht
    by_cases h3 : (sizes.length : Int) ≠ 2
    · replace H := ite_yes h3 H
      refine wpl_no rfl rfl ht rfl (by rw [(decide_eq_true h3)]; decide) ?_
      intro a ht
      refine wpl_no rfl rfl ht rfl (by rw [(decide_eq_true h3)]; decide) ?_
      intro a ht
      refine wpl_no rfl rfl ht rfl (by rw [(decide_eq_true h3)]; decide) ?_
      intro a ht
      refine wpl_no rfl rfl ht rfl (by rw [(decide_eq_true h3)]; decide) ?_
      intro a ht
      refine wpl_no rfl rfl ht rfl (by rw [(decide_eq_true h3)]; decide) ?_
      intro a ht
      refine wpl rfl rfl ht (ev_pick_yes ht rfl rfl (decide_eq_true h3) rfl) ?_
      intro a ht
      refine wpl rfl rfl ht (ev_move ht rfl rfl) ?_
      intro a ht
      refine wpl_no rfl rfl ht rfl (by decide) ?_
      intro a ht
      refine wpl_no rfl rfl ht rfl (by decide) ?_
      intro a ht
      refine wpl_no rfl rfl ht rfl (by decide) ?_
      intro a ht
      refine wpl_no rfl rfl ht rfl (by decide) ?_
      intro a ht
      refine wpl_no rfl rfl ht rfl (by decide) ?_
      intro a ht
      refine wpl rfl rfl ht (ev_pick_yes ht rfl rfl rfl rfl) ?_
      intro a ht
      refine wpList_nil ?_
      refine then_normal ?_
      refine wpc_yes ht rfl rfl ?_
      refine wp_seq ?_
      refine wpr ?_
      refine wpl rfl rfl ht (ev_assign ht rfl rfl) ?_
      intro a ht
      refine wpList_nil ?_
      refine then_normal ?_
      refine wp_ret ?_
      refine then_ret ?_
      have hres := ht.res (P := Try.prog) (w := w) (rs := [.tmp 4]) (vs := [.int .i64 2]) (.tmp rfl .nil)
      obtain rfl := Option.some.inj H
      exact leave ht rfl hres ⟨rfl, ((hm.pick [] rfl (by decide)).pickφ [] rfl).post fun _ h => h⟩
    · replace H := ite_no h3 H
      refine wpl_yes rfl ht rfl ((decide_eq_false h3)) ?_
      refine wpl rfl rfl ht (ev_move ht rfl rfl) ?_
      intro a ht
      refine wpl_yes rfl ht rfl ((decide_eq_false h3)) ?_
      obtain ⟨t4, et4, H⟩ := bind_get H
      refine wpl rfl rfl ht (ev_index_ints ht rfl rfl rfl so_24 (hm.fact (φ := IntsAt A c m sizes) 0 rfl) et4) ?_
      intro a ht
      refine wpl_yes rfl ht rfl ((decide_eq_false h3)) ?_
      refine wpl rfl rfl ht (ev_load ht rfl rfl sc_2 (RowAt.cell (hm.fact (φ := IntsAt A c m sizes) 0 rfl) (ints_get et4) rfl)) ?_
      intro a ht
      refine wpl_yes rfl ht rfl ((decide_eq_false h3)) ?_
      obtain ⟨t5, et5, H⟩ := bind_get H
      have hcall := spec_l01In.calls _ _ t4 2 6 _ ((fun (hq : Ms _ _ _ ([] ++ []) _ _) => hq.lend (φp := []) (allRO_nil)) (hm.pick (own' := [] ++ []) [] rfl (by decide))) et5
      refine wpl_call _ rfl rfl ht rfl rfl rfl rfl can_34 hcall ?_
      clear hcall
      rintro _ w ⟨rfl, hpost⟩ a ht
      replace hm := (hm.pick (own' := [] ++ []) [] rfl (by decide)).backL hpost
      clear hpost
      refine wpl_yes rfl ht rfl ((decide_eq_false h3)) ?_
      refine wpl rfl rfl ht (ev_not ht rfl rfl) ?_
      intro a ht
      refine wpl rfl rfl ht (ev_pick_no ht rfl rfl (decide_eq_false h3) rfl) ?_
      intro a ht
      refine wpl rfl rfl ht (ev_move ht rfl rfl) ?_
      intro a ht
      by_cases h6 : t5 = true
      · replace H := ite_yes h6 H
        refine wpl_yes rfl ht rfl ((not_t h6)) ?_
        refine wpl rfl rfl ht (ev_move ht rfl rfl) ?_
        intro a ht
        refine wpl_yes rfl ht rfl ((not_t h6)) ?_
        obtain ⟨t7, et7, H⟩ := bind_get H
        refine wpl rfl rfl ht (ev_index_ints ht rfl rfl rfl so_24 (hm.fact (φ := IntsAt A c m sizes) 0 rfl) et7) ?_
        intro a ht
        refine wpl_yes rfl ht rfl ((not_t h6)) ?_
        refine wpl rfl rfl ht (ev_load ht rfl rfl sc_2 (RowAt.cell (hm.fact (φ := IntsAt A c m sizes) 0 rfl) (ints_get et7) rfl)) ?_
        intro a ht
        refine wpl_yes rfl ht rfl ((not_t h6)) ?_
        obtain ⟨t8, et8, H⟩ := bind_get H
        have hcall := spec_l01In.calls _ _ t7 2 6 _ ((fun (hq : Ms _ _ _ ([] ++ []) _ _) => hq.lend (φp := []) (allRO_nil)) (hm.pick (own' := [] ++ []) [] rfl (by decide))) et8
        refine wpl_call _ rfl rfl ht rfl rfl rfl rfl can_34 hcall ?_
        clear hcall
        rintro _ w ⟨rfl, hpost⟩ a ht
        replace hm := (hm.pick (own' := [] ++ []) [] rfl (by decide)).backL hpost
        clear hpost
        refine wpl_yes rfl ht rfl ((not_t h6)) ?_
        refine wpl rfl rfl ht (ev_not ht rfl rfl) ?_
        intro a ht
        refine wpl rfl rfl ht (ev_pick_no ht rfl rfl (not_t h6) rfl) ?_
        intro a ht
        refine wpList_nil ?_
        refine then_normal ?_
        by_cases h9 : t8 = true
        · replace H := ite_yes h9 H
          refine wpc_no ht rfl (not_t h9) ?_
          refine wp_skip ?_
          refine then_normal ?_
          refine wp_seq ?_
          refine wpr ?_
          refine wpl rfl rfl ht (ev_assign ht rfl rfl) ?_
          intro a ht
          refine wpList_nil ?_
          refine then_normal ?_
          refine wp_ret ?_
          have hres := ht.res (P := Try.prog) (w := w) (rs := [.tmp 4]) (vs := [.int .i64 0]) (.tmp rfl .nil)
          obtain rfl := Option.some.inj H
          exact leave ht rfl hres ⟨rfl, ((hm.pick [] rfl (by decide)).pickφ [] rfl).post fun _ h => h⟩
        · replace H := ite_no h9 H
          refine wpc_yes ht rfl (not_f (Bool.eq_false_iff.mpr h9)) ?_
          refine wp_seq ?_
          refine wpr ?_
          refine wpl rfl rfl ht (ev_assign ht rfl rfl) ?_
          intro a ht
          refine wpList_nil ?_
          refine then_normal ?_
          refine wp_ret ?_
          refine then_ret ?_
          have hres := ht.res (P := Try.prog) (w := w) (rs := [.tmp 4]) (vs := [.int .i64 2]) (.tmp rfl .nil)
          obtain rfl := Option.some.inj H
          exact leave ht rfl hres ⟨rfl, ((hm.pick [] rfl (by decide)).pickφ [] rfl).post fun _ h => h⟩
      · replace H := ite_no h6 H
        refine wpl_no rfl rfl ht rfl (by rw [(not_f (Bool.eq_false_iff.mpr h6))]; decide) ?_
        intro a ht
        refine wpl_no rfl rfl ht rfl (by rw [(not_f (Bool.eq_false_iff.mpr h6))]; decide) ?_
        intro a ht
        refine wpl_no rfl rfl ht rfl (by rw [(not_f (Bool.eq_false_iff.mpr h6))]; decide) ?_
        intro a ht
        refine wpl_no rfl rfl ht rfl (by rw [(not_f (Bool.eq_false_iff.mpr h6))]; decide) ?_
        intro a ht
        refine wpl_no rfl rfl ht rfl (by rw [(not_f (Bool.eq_false_iff.mpr h6))]; decide) ?_
        intro a ht
        refine wpl rfl rfl ht (ev_pick_yes ht rfl rfl (not_f (Bool.eq_false_iff.mpr h6)) rfl) ?_
        intro a ht
        refine wpList_nil ?_
        refine then_normal ?_
        refine wpc_yes ht rfl rfl ?_
        refine wp_seq ?_
        refine wpr ?_
        refine wpl rfl rfl ht (ev_assign ht rfl rfl) ?_
        intro a ht
        refine wpList_nil ?_
        refine then_normal ?_
        refine wp_ret ?_
        refine then_ret ?_
        have hres := ht.res (P := Try.prog) (w := w) (rs := [.tmp 4]) (vs := [.int .i64 2]) (.tmp rfl .nil)
        obtain rfl := Option.some.inj H
        exact leave ht rfl hres ⟨rfl, ((hm.pick [] rfl (by decide)).pickφ [] rfl).post fun _ h => h⟩
  · replace H := ite_no h2 H
    refine wpl_no rfl rfl ht rfl (by rw [(not_f (Bool.eq_false_iff.mpr h2))]; decide) ?_
    intro a ht
    refine wpl_no rfl rfl ht rfl (by rw [(not_f (Bool.eq_false_iff.mpr h2))]; decide) ?_
    intro a ht
    refine wpl_no rfl rfl ht rfl (by rw [(not_f (Bool.eq_false_iff.mpr h2))]; decide) ?_
    intro a ht
    refine wpl rfl rfl ht (ev_pick_yes ht rfl rfl (not_f (Bool.eq_false_iff.mpr h2)) rfl) ?_
    intro a ht
    refine wpl rfl rfl ht (ev_move ht rfl rfl) ?_
    intro a ht
    refine wpl_no rfl rfl ht rfl (by decide) ?_
    intro a ht
    refine wpl_no rfl rfl ht rfl (by decide) ?_
    intro a ht
    refine wpl_no rfl rfl ht rfl (by decide) ?_
    intro a ht
    refine wpl_no rfl rfl ht rfl (by decide) ?_
    intro a ht
    refine wpl_no rfl rfl ht rfl (by decide) ?_
    intro a ht
    refine wpl rfl rfl ht (ev_pick_yes ht rfl rfl rfl rfl) ?_
    intro a ht
    refine wpl rfl rfl ht (ev_move ht rfl rfl) ?_
    intro a ht
    refine wpl_no rfl rfl ht rfl (by decide) ?_
    intro a ht
    refine wpl_no rfl rfl ht rfl (by decide) ?_
    intro a ht
    refine wpl_no rfl rfl ht rfl (by decide) ?_
    intro a ht
    refine wpl_no rfl rfl ht rfl (by decide) ?_
    intro a ht
    refine wpl_no rfl rfl ht rfl (by decide) ?_
    intro a ht
    refine wpl rfl rfl ht (ev_pick_yes ht rfl rfl rfl rfl) ?_
    intro a ht
    refine wpList_nil ?_
    refine then_normal ?_
    refine wpc_yes ht rfl rfl ?_
    refine wp_seq ?_
    refine wpr ?_
    refine wpl rfl rfl ht (ev_assign ht rfl rfl) ?_
    intro a ht
    refine wpList_nil ?_
    refine then_normal ?_
    refine wp_ret ?_
    refine then_ret ?_
    have hres := ht.res (P := Try.prog) (w := w) (rs := [.tmp 4]) (vs := [.int .i64 2]) (.tmp rfl .nil)
    obtain rfl := Option.some.inj H
    exact leave ht rfl hres ⟨rfl, ((hm.pick [] rfl (by decide)).pickφ [] rfl).post fun _ h => h⟩

/-! ### spec_l01Edge: function 51 (loop.example/g01362/spec.l01Edge) -/
def spec_l01Edge.f (i : Int) (j : Int) : Option (Int) := if i > j then (some (w64 ((w64 (Int.tdiv (w64 (i * (w64 (i - 1)))) 2)) + j))) else (some (w64 ((w64 (Int.tdiv (w64 (j * (w64 (j - 1)))) 2)) + i)))
set_option maxRecDepth 100000 in
set_option maxHeartbeats 20000000 in
theorem spec_l01Edge.calls (X : List Nat) (w0 : World)  (i : Int) (j : Int) (r : Int)
    (hp : Pre X w0 [] []) (H : spec_l01Edge.f i j = some r) :
    Calls Try.prog 51 [.int .i64 i, .int .i64 j].toArray w0 (Ret fun v w => v = .int .i64 r ∧ Post X (fps []) w0 [] [] w) := by
  unfold spec_l01Edge.f at H
  refine enterM (n := 22) hp Try.func51 rfl rfl (Nat.le_of_ble_eq_true rfl) fun a w ht hm => ?_
  refine wp_seq ?_
  refine wpr ?_
  refine wpl rfl rfl ht (ev_assign ht rfl rfl) ?_
  intro a ht
  refine wpList_nil ?_
  refine then_normal ?_
  refine wp_seq ?_
  refine wp_seq ?_
  refine wpr ?_
  refine wpl rfl rfl ht (ev_move ht rfl rfl) ?_
  intro a ht
  refine wpl rfl rfl ht (ev_move ht rfl rfl) ?_
  intro a ht
  refine wpl rfl rfl ht (ev_cmp ht rfl rfl rfl rfl) ?_
  intro a ht
  refine wpList_nil ?_
  refine then_normal ?_
  by_cases h1 : i > j
  · replace H := ite_yes h1 H
    refine wpc_yes ht rfl (decide_eq_true h1) ?_
    refine wp_seq ?_
    refine wpr ?_
    refine wpl rfl rfl ht (ev_move ht rfl rfl) ?_
    intro a ht
    refine wpl rfl rfl ht (ev_move ht rfl rfl) ?_
    intro a ht
    refine wpl rfl rfl ht (ev_arith ht rfl rfl rfl rfl) ?_
    intro a ht
    refine wpl rfl rfl ht (ev_arith ht rfl rfl rfl rfl) ?_
    intro a ht
    refine wpl rfl rfl ht (ev_quo ht rfl rfl rfl (by decide)) ?_
    intro a ht
    refine wpl rfl rfl ht (ev_move ht rfl rfl) ?_
    intro a ht
    refine wpl rfl rfl ht (ev_arith ht rfl rfl rfl rfl) ?_
    intro a ht
    refine wpl rfl rfl ht (ev_assign ht rfl rfl) ?_
    intro a ht
    refine wpList_nil ?_
    refine then_normal ?_
    refine wp_ret ?_
    refine then_ret ?_
    have hres := ht.res (P := Try.prog) (w := w) (rs := [.tmp 4]) (vs := [.int .i64 (w64 ((w64 (Int.tdiv (w64 (i * (w64 (i - 1)))) 2)) + j))]) (.tmp rfl .nil)
    obtain rfl := Option.some.inj H
    exact leave ht rfl hres ⟨rfl, ((hm.pick [] rfl (by decide)).pickφ [] rfl).post fun _ h => h⟩
  · replace H := ite_no h1 H
    refine wpc_no ht rfl (decide_eq_false h1) ?_
    refine wp_skip ?_
    refine then_normal ?_
    refine wp_seq ?_
    refine wpr ?_
    refine wpl rfl rfl ht (ev_move ht rfl rfl) ?_
    intro a ht
    refine wpl rfl rfl ht (ev_move ht rfl rfl) ?_
    intro a ht
    refine wpl rfl rfl ht (ev_arith ht rfl rfl rfl rfl) ?_
    intro a ht
    refine wpl rfl rfl ht (ev_arith ht rfl rfl rfl rfl) ?_
    intro a ht
    refine wpl rfl rfl ht (ev_quo ht rfl rfl rfl (by decide)) ?_
    intro a ht
    refine wpl rfl rfl ht (ev_move ht rfl rfl) ?_
    intro a ht
    refine wpl rfl rfl ht (ev_arith ht rfl rfl rfl rfl) ?_
    intro a ht
    refine wpl rfl rfl ht (ev_assign ht rfl rfl) ?_
    intro a ht
    refine wpList_nil ?_
    refine then_normal ?_
    refine wp_ret ?_
    have hres := ht.res (P := Try.prog) (w := w) (rs := [.tmp 4]) (vs := [.int .i64 (w64 ((w64 (Int.tdiv (w64 (j * (w64 (j - 1)))) 2)) + i))]) (.tmp rfl .nil)
    obtain rfl := Option.some.inj H
    exact leave ht rfl hres ⟨rfl, ((hm.pick [] rfl (by decide)).pickφ [] rfl).post fun _ h => h⟩

/-! ### spec_l03Distance: function 50 (loop.example/g01362/spec.l03Distance) -/
def spec_l03Distance.f (i : Int) (j : Int) (n_ : Int) : Option (Int) := some (min (w64 ((max i j) - (min i j))) (w64 (n_ - (w64 ((max i j) - (min i j))))))
set_option maxRecDepth 100000 in
set_option maxHeartbeats 20000000 in
theorem spec_l03Distance.calls (X : List Nat) (w0 : World)  (i : Int) (j : Int) (n_ : Int) (r : Int)
    (hp : Pre X w0 [] []) (H : spec_l03Distance.f i j n_ = some r) :
    Calls Try.prog 50 [.int .i64 i, .int .i64 j, .int .i64 n_].toArray w0 (Ret fun v w => v = .int .i64 r ∧ Post X (fps []) w0 [] [] w) := by
  unfold spec_l03Distance.f at H
  refine enterM (n := 20) hp Try.func50 rfl rfl (Nat.le_of_ble_eq_true rfl) fun a w ht hm => ?_
  refine wp_seq ?_
  refine wpr ?_
  refine wpl rfl rfl ht (ev_assign ht rfl rfl) ?_
  intro a ht
  refine wpList_nil ?_
  refine then_normal ?_
  refine wp_seq ?_
  refine wpr ?_
  refine wpl rfl rfl ht (ev_move ht rfl rfl) ?_
  intro a ht
  refine wpl rfl rfl ht (ev_move ht rfl rfl) ?_
  intro a ht
  refine wpl rfl rfl ht (ev_max ht rfl rfl rfl) ?_
  intro a ht
  refine wpl rfl rfl ht (ev_move ht rfl rfl) ?_
  intro a ht
  refine wpl rfl rfl ht (ev_move ht rfl rfl) ?_
  intro a ht
  refine wpl rfl rfl ht (ev_min ht rfl rfl rfl) ?_
  intro a ht
  refine wpl rfl rfl ht (ev_arith ht rfl rfl rfl rfl) ?_
  intro a ht
  refine wpl rfl rfl ht (ev_assign ht rfl rfl) ?_
  intro a ht
  refine wpList_nil ?_
  refine then_normal ?_
  refine wp_seq ?_
  refine wpr ?_
  refine wpl rfl rfl ht (ev_move ht rfl rfl) ?_
  intro a ht
  refine wpl rfl rfl ht (ev_move ht rfl rfl) ?_
  intro a ht
  refine wpl rfl rfl ht (ev_move ht rfl rfl) ?_
  intro a ht
  refine wpl rfl rfl ht (ev_arith ht rfl rfl rfl rfl) ?_
  intro a ht
  refine wpl rfl rfl ht (ev_min ht rfl rfl rfl) ?_
  intro a ht
  refine wpl rfl rfl ht (ev_assign ht rfl rfl) ?_
  intro a ht
  refine wpList_nil ?_
  refine then_normal ?_
  refine wp_ret ?_
  have hres := ht.res (P := Try.prog) (w := w) (rs := [.tmp 6]) (vs := [.int .i64 (min (w64 ((max i j) - (min i j))) (w64 (n_ - (w64 ((max i j) - (min i j))))))]) (.tmp rfl .nil)
  obtain rfl := Option.some.inj H
  exact leave ht rfl hres ⟨rfl, ((hm.pick [] rfl (by decide)).pickφ [] rfl).post fun _ h => h⟩

end Go.Proofs.Ytkceneefhbdifaa.G
