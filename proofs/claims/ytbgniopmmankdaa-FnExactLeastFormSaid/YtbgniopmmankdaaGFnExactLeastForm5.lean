/- What each Go function computes, as a Lean function, and the proof that it does: written by a program of this session (wip/gen), part 5. -/
import Derived.Test.YtbgniopmmankdaaGFnExactLeastForm4
namespace Go.Proofs.Ytbgniopmmankdaa.G
open Go Go.RowKit Go.Proofs.Ytbgniopmmankdaa.K
set_option linter.unusedVariables false
set_option linter.unusedSimpArgs false

/-! ### impl_orders: function 30 (loop.example/g01362/impl.orders) -/
mutual
def impl_orders.l0 : Nat → Int → List Int → List (List Int) → Int → Option (List (List Int))
  | 0, _, _, _, _ => none
  | q5 + 1, n_, list, ls0_4, xs0_6 => if xs0_6 < n_ then ((slices_Contains_int64_int64.f q5 list xs0_6).bind fun t7 => if t7 = true then (impl_orders.l0 q5 n_ list ls0_4 (w64 (xs0_6 + 1))) else ((slices_Clone_int64_int64.f list).bind fun t9 => (push t9 xs0_6).bind fun l17 => (impl_orders.f q5 n_ l17).bind fun t18 => (concatR ls0_4 t18).bind fun l26 => impl_orders.l0 q5 n_ list l26 (w64 (xs0_6 + 1)))) else (some ls0_4)
def impl_orders.f : Nat → Int → List Int → Option (List (List Int))
  | 0, _, _ => none
  | k + 1, n_, list => (impl_size_int64.f list).bind fun t1 => if t1 = n_ then (some ([list])) else (impl_orders.l0 k n_ list ([] : List (List Int)) 0)
end
set_option maxRecDepth 100000 in
set_option maxHeartbeats 1000000 in
theorem impl_orders.calls (k : Nat) (X : List Nat) (w0 : World) (A : Option Addr) (c : Nat) (m : Nat) (n_ : Int) (list : List Int) (r : List (List Int))
    (hp : Pre X w0 [] [IntsAt A c m list]) (H : impl_orders.f k n_ list = some r) :
    Calls Try.prog 30 [.int .i64 n_, .slice A m c].toArray w0 (Ret fun v w => ∃ (A_0 : Option Addr) (c_0 : Nat) (n_0 : Nat) (vs_0 : List Value), v = .slice A_0 n_0 c_0 ∧ Post X (fps []) w0 [.vec A_0 c_0 43 1 n_0 vs_0] [AllInts vs_0 r] w) := by
  induction k using Nat.strongRecOn generalizing X w0 A c m n_ list r with
  | _ k ih =>
  cases k with
  | zero => cases H
  | succ k =>
  rw [impl_orders.f] at H
  refine enterM (n := 33) hp Try.func30 rfl rfl (Nat.le_of_ble_eq_true rfl) fun a w ht hm => ?_
  induction k using Nat.strongRecOn with
  | _ k ih =>
  refine wp_seq ?_
  refine wpr ?_
  refine wpl rfl rfl ht (ev_assign ht rfl rfl) ?_
  intro a ht
  refine wpList_nil ?_
  refine then_normal ?_
  refine wp_seq ?_
  refine wp_seq ?_
  refine wpr ?_
  refine wpl rfl rfl ht (ev_move ht rfl rfl) ?_
  intro a ht
  obtain ⟨t1, et1, H⟩ := bind_get H
  have hcall := impl_size_int64.calls _ _ A c m list _ ((fun (hq : Ms _ _ _ ([] ++ []) _ _) => hq.lend (φp := [IntsAt A c m list]) (allRO_cons (hq.lendFact 0 rfl) (allRO_nil))) (hm.pick (own' := [] ++ []) [] rfl (by decide))) et1
  refine wpl_call _ rfl rfl ht rfl rfl rfl rfl can_53 hcall ?_
  clear hcall
  rintro _ w ⟨rfl, hpost⟩ a ht
  replace hm := (hm.pick (own' := [] ++ []) [] rfl (by decide)).backL hpost
  clear hpost
  refine wpl rfl rfl ht (ev_move ht rfl rfl) ?_
  intro a ht
  refine wpl rfl rfl ht (ev_cmp ht rfl rfl rfl rfl) ?_
  intro a ht
  refine wpList_nil ?_
  refine then_normal ?_
  by_cases h2 : t1 = n_
  · replace H := ite_yes h2 H
    refine wpc_yes ht rfl (decide_eq_true h2) ?_
    refine wp_seq ?_
    refine wpr ?_
    refine wpl rfl rfl ht (ev_move ht rfl rfl) ?_
    intro a ht
    replace hm : Ms _ _ _ _ (AllInts ([.slice A m c]) ([list]) :: _) w := hm.addφ (allInts_cons (hm.ro 0 rfl) (allInts_nil))
    refine wpl_buildSlice (vs := [.slice A m c]) rfl rfl ht hm rfl und_35 zo_43 sz1_43 (by decide) rfl rfl rfl ?_
    intro A3 a ht w hm
    refine wpl rfl rfl ht (ev_assign ht rfl rfl) ?_
    intro a ht
    refine wpList_nil ?_
    refine then_normal ?_
    refine wp_ret ?_
    refine then_ret ?_
    have hres := ht.res (P := Try.prog) (w := w) (rs := [.tmp 4]) (vs := [.slice A3 1 1]) (.tmp rfl .nil)
    obtain rfl := Option.some.inj H
    exact leave ht rfl hres ⟨A3, 1, 1, [.slice A m c], rfl, ((hm.pick [0] rfl (by decide)).pickφ [0] rfl).post fun _ h => h⟩
  · replace H := ite_no h2 H
    refine wpc_no ht rfl (decide_eq_false h2) ?_
    refine wp_skip ?_
    refine then_normal ?_
    refine wp_seq ?_
    refine wpr ?_
    replace hm : Ms _ _ _ _ (AllInts ([]) ([] : List (List Int)) :: _) w := hm.addφ (allInts_nil)
    refine wpl_buildSlice (vs := []) rfl rfl ht hm rfl und_35 zo_43 sz1_43 (by decide) rfl rfl rfl ?_
    intro A4 a ht w hm
    refine wpl rfl rfl ht (ev_assign ht rfl rfl) ?_
    intro a ht
    refine wpList_nil ?_
    refine then_normal ?_
    refine wp_seq ?_
    refine wp_seq ?_
    refine wpr ?_
    refine wpl rfl rfl ht (ev_move ht rfl rfl) ?_
    intro a ht
    refine wpl rfl rfl ht (ev_move ht rfl rfl) ?_
    intro a ht
    refine wpList_nil ?_
    refine then_normal ?_
    refine wp_block ?_
    refine wpLoop (fun q a w => ∃ (ls0_4 : List (List Int)) (xs0_6 : Int) (As0_1 : Option Addr) (cs0_2 : Nat) (ms0_3 : Nat) (vss0_5 : List Value), impl_orders.l0 q n_ list ls0_4 xs0_6 = some r ∧ q ≤ k ∧ Tm 33 [(0, .int .i64 n_), (1, .slice A m c), (4, .slice none 0 0), (5, .slice As0_1 ms0_3 cs0_2), (14, .int .i64 n_), (15, .int .i64 xs0_6)] a ∧ Ms X (fps []) w0 [.vec As0_1 cs0_2 43 1 ms0_3 vss0_5] [IntsAt A c m list, AllInts vss0_5 ls0_4] w) (k0 := k) ⟨([] : List (List Int)), 0, A4, 0, 0, ([]), H, Nat.le_refl _, ht.sub ⟨rfl, rfl, rfl, rfl, rfl, rfl, trivial⟩, (hm.pick [0] rfl (by decide)).pickφ [1, 0] rfl⟩ ?_
    clear H ht hm
    intro q5 a w hJ
    obtain ⟨ls0_4, xs0_6, As0_1, cs0_2, ms0_3, vss0_5, H, hqq5, ht, hm⟩ := hJ
    cases q5 with
    | zero => cases H
    | succ q5 =>
    rw [impl_orders.l0] at H
    refine wp_seq ?_
    refine wpr ?_
    refine wpl rfl rfl ht (ev_cmp ht rfl rfl rfl rfl) ?_
    intro a ht
    refine wpList_nil ?_
    refine then_normal ?_
    refine wp_seq ?_
    by_cases h6 : xs0_6 < n_
    · replace H := ite_yes h6 H
      refine wpc_yes ht rfl (decide_eq_true h6) ?_
      refine wp_skip ?_
      refine then_normal ?_
      refine wp_seq ?_
      refine wp_block ?_
      refine wp_seq ?_
      refine wpr ?_
      refine wpl rfl rfl ht (ev_move ht rfl rfl) ?_
      intro a ht
      refine wpl rfl rfl ht (ev_assign ht rfl rfl) ?_
      intro a ht
      refine wpList_nil ?_
      refine then_normal ?_
      refine wp_seq ?_
      refine wpr ?_
      refine wpl rfl rfl ht (ev_move ht rfl rfl) ?_
      intro a ht
      refine wpl rfl rfl ht (ev_move ht rfl rfl) ?_
      intro a ht
      obtain ⟨t7, et7, H⟩ := bind_get H
      have hcall := slices_Contains_int64_int64.calls q5 _ _ A c m list xs0_6 _ ((fun (hq : Ms _ _ _ ([] ++ [.vec As0_1 cs0_2 43 1 ms0_3 vss0_5]) _ _) => hq.lend (φp := [IntsAt A c m list]) (allRO_cons (hq.lendFact 0 rfl) (allRO_nil))) (hm.pick (own' := [] ++ [.vec As0_1 cs0_2 43 1 ms0_3 vss0_5]) [0] rfl (by decide))) et7
      refine wpl_call _ rfl rfl ht rfl rfl rfl rfl can_54 hcall ?_
      clear hcall
      rintro _ w ⟨rfl, hpost⟩ a ht
      replace hm := (hm.pick (own' := [] ++ [.vec As0_1 cs0_2 43 1 ms0_3 vss0_5]) [0] rfl (by decide)).backL hpost
      clear hpost
      refine wpl rfl rfl ht (ev_not ht rfl rfl) ?_
      intro a ht
      refine wpList_nil ?_
      refine then_normal ?_
      by_cases h8 : t7 = true
      · replace H := ite_yes h8 H
        refine wpc_no ht rfl (not_t h8) ?_
        refine wp_skip ?_
        refine blk_normal ?_
        refine then_normal ?_
        refine wpr ?_
        refine wpl rfl rfl ht (ev_arith ht rfl rfl rfl rfl) ?_
        intro a ht
        refine wpl rfl rfl ht (ev_move ht rfl rfl) ?_
        intro a ht
        refine wpList_nil ?_
        exact then_normal ⟨q5, by omega, ls0_4, (w64 (xs0_6 + 1)), As0_1, cs0_2, ms0_3, vss0_5, H, by omega, ht.sub ⟨rfl, rfl, rfl, rfl, rfl, rfl, trivial⟩, (hm.pick [0] rfl (by decide)).pickφ [0, 1] rfl⟩
      · replace H := ite_no h8 H
        refine wpc_yes ht rfl (not_f (Bool.eq_false_iff.mpr h8)) ?_
        refine wpr ?_
        refine wpl rfl rfl ht (ev_move ht rfl rfl) ?_
        intro a ht
        refine wpl rfl rfl ht (ev_move ht rfl rfl) ?_
        intro a ht
        refine wpl rfl rfl ht (ev_move ht rfl rfl) ?_
        intro a ht
        obtain ⟨t9, et9, H⟩ := bind_get H
        have hcall := slices_Clone_int64_int64.calls _ _ A c m list _ ((fun (hq : Ms _ _ _ ([] ++ [.vec As0_1 cs0_2 43 1 ms0_3 vss0_5]) _ _) => hq.lend (φp := [IntsAt A c m list]) (allRO_cons (hq.lendFact 0 rfl) (allRO_nil))) (hm.pick (own' := [] ++ [.vec As0_1 cs0_2 43 1 ms0_3 vss0_5]) [0] rfl (by decide))) et9
        refine wpl_call _ rfl rfl ht rfl rfl rfl rfl can_55 hcall ?_
        clear hcall
        rintro _ w ⟨A10, c11, m12, rfl, hpost⟩ a ht
        replace hm := (hm.pick (own' := [] ++ [.vec As0_1 cs0_2 43 1 ms0_3 vss0_5]) [0] rfl (by decide)).backL hpost
        clear hpost
        refine wpl rfl rfl ht (ev_move ht rfl rfl) ?_
        intro a ht
        refine wpl_build_ints (l := [xs0_6]) rfl rfl ht hm rfl und_43 zo_2 sz1_2 (by decide) rfl rfl rfl ?_
        intro A13 a ht w hm
        obtain ⟨l17, el17, H⟩ := bind_get H
        refine wpl_push (r := l17) 1 0 rfl rfl ht hm rfl ap_43 rfl rfl rfl rfl el17 ?_
        intro A14 c15 m16 a ht w hm
        replace hm : Ms _ _ _ _ (IntsAt A14 c15 m16 l17 :: _) w := hm.shutVec 1 rfl
        obtain ⟨t18, et18, H⟩ := bind_get H
        have hcall := ih q5 (by omega) _ _ A14 c15 m16 n_ l17 _ ((hm.pick (own' := [] ++ [.vec A13 1 2 1 1 (ints ([xs0_6])), .vec As0_1 cs0_2 43 1 ms0_3 vss0_5]) [0, 1] rfl (by decide)).give (passed := []) (rest := [.vec A13 1 2 1 1 (ints ([xs0_6])), .vec As0_1 cs0_2 43 1 ms0_3 vss0_5]) (φp := [IntsAt A14 c15 m16 l17]) [0] rfl) et18
        refine wpl_call _ rfl rfl ht rfl rfl rfl rfl can_30 hcall ?_
        clear hcall
        rintro _ w ⟨A19, c20, m21, vs22, rfl, hpost⟩ a ht
        replace hm := (hm.pick (own' := [] ++ [.vec A13 1 2 1 1 (ints ([xs0_6])), .vec As0_1 cs0_2 43 1 ms0_3 vss0_5]) [0, 1] rfl (by decide)).back hpost
        clear hpost
        obtain ⟨l26, el26, H⟩ := bind_get H
        replace hm : Ms _ _ _ _ (AllInts (vss0_5 ++ vs22) l26 :: _) w := hm.addφ (allInts_append el26 (hm.ro 3 rfl) (hm.ro 0 rfl))
        refine wpl_concat_rows (r := l26) 2 0 4 1 rfl rfl ht hm rfl ap_35 rfl rfl rfl rfl rfl rfl el26 ?_
        intro A23 c24 m25 a ht w hm
        refine wpl rfl rfl ht (ev_assign ht rfl rfl) ?_
        intro a ht
        refine wpList_nil ?_
        refine blk_normal ?_
        refine then_normal ?_
        refine wpr ?_
        refine wpl rfl rfl ht (ev_arith ht rfl rfl rfl rfl) ?_
        intro a ht
        refine wpl rfl rfl ht (ev_move ht rfl rfl) ?_
        intro a ht
        refine wpList_nil ?_
        exact then_normal ⟨q5, by omega, l26, (w64 (xs0_6 + 1)), A23, c24, m25, (vss0_5 ++ vs22), H, by omega, ht.sub ⟨rfl, rfl, rfl, rfl, rfl, rfl, trivial⟩, (hm.pick [2] rfl (by decide)).pickφ [3, 0] rfl⟩
    · replace H := ite_no h6 H
      refine wpc_no ht rfl (decide_eq_false h6) ?_
      refine wp_exit ?_
      refine then_exit ?_
      refine then_exit ?_
      refine blk_hit ?_
      refine then_normal ?_
      refine wp_seq ?_
      refine wpr ?_
      refine wpl rfl rfl ht (ev_move ht rfl rfl) ?_
      intro a ht
      refine wpl rfl rfl ht (ev_assign ht rfl rfl) ?_
      intro a ht
      refine wpList_nil ?_
      refine then_normal ?_
      refine wp_ret ?_
      have hres := ht.res (P := Try.prog) (w := w) (rs := [.tmp 4]) (vs := [.slice As0_1 ms0_3 cs0_2]) (.tmp rfl .nil)
      obtain rfl := Option.some.inj H
      exact leave ht rfl hres ⟨As0_1, cs0_2, ms0_3, vss0_5, rfl, ((hm.pick [0] rfl (by decide)).pickφ [1] rfl).post fun _ h => h⟩

/-! ### impl_number: function 71 (loop.example/g01362/impl.number) -/
def impl_number.f (i : Int) (j : Int) : Option (Int) := some (w64 ((w64 (Int.tdiv (w64 ((max i j) * (w64 ((max i j) - 1)))) 2)) + (min i j)))
set_option maxRecDepth 100000 in
set_option maxHeartbeats 1000000 in
theorem impl_number.calls (X : List Nat) (w0 : World)  (i : Int) (j : Int) (r : Int)
    (hp : Pre X w0 [] []) (H : impl_number.f i j = some r) :
    Calls Try.prog 71 [.int .i64 i, .int .i64 j].toArray w0 (Ret fun v w => v = .int .i64 r ∧ Post X (fps []) w0 [] [] w) := by
  unfold impl_number.f at H
  refine enterM (n := 18) hp Try.func71 rfl rfl (Nat.le_of_ble_eq_true rfl) fun a w ht hm => ?_
  refine wp_seq ?_
  refine wpr ?_
  refine wpl rfl rfl ht (ev_assign ht rfl rfl) ?_
  intro a ht
  refine wpList_nil ?_
  refine then_normal ?_
  refine wp_seq ?_
  refine wpr ?_
  refine wpl rfl rfl ht (ev_move ht rfl rfl) ?_
  intro a ht
  refine wpl rfl rfl ht (ev_move ht rfl rfl) ?_
  intro a ht
  refine wpl rfl rfl ht (ev_min ht rfl rfl rfl) ?_
  intro a ht
  refine wpl rfl rfl ht (ev_move ht rfl rfl) ?_
  intro a ht
  refine wpl rfl rfl ht (ev_move ht rfl rfl) ?_
  intro a ht
  refine wpl rfl rfl ht (ev_max ht rfl rfl rfl) ?_
  intro a ht
  refine wpl rfl rfl ht (ev_assign ht rfl rfl) ?_
  intro a ht
  refine wpl rfl rfl ht (ev_assign ht rfl rfl) ?_
  intro a ht
  refine wpList_nil ?_
  refine then_normal ?_
  refine wp_seq ?_
  refine wpr ?_
  refine wpl rfl rfl ht (ev_move ht rfl rfl) ?_
  intro a ht
  refine wpl rfl rfl ht (ev_move ht rfl rfl) ?_
  intro a ht
  refine wpl rfl rfl ht (ev_arith ht rfl rfl rfl rfl) ?_
  intro a ht
  refine wpl rfl rfl ht (ev_arith ht rfl rfl rfl rfl) ?_
  intro a ht
  refine wpl rfl rfl ht (ev_quo ht rfl rfl rfl (by decide)) ?_
  intro a ht
  refine wpl rfl rfl ht (ev_move ht rfl rfl) ?_
  intro a ht
  refine wpl rfl rfl ht (ev_arith ht rfl rfl rfl rfl) ?_
  intro a ht
  refine wpl rfl rfl ht (ev_assign ht rfl rfl) ?_
  intro a ht
  refine wpList_nil ?_
  refine then_normal ?_
  refine wp_ret ?_
  have hres := ht.res (P := Try.prog) (w := w) (rs := [.tmp 4]) (vs := [.int .i64 (w64 ((w64 (Int.tdiv (w64 ((max i j) * (w64 ((max i j) - 1)))) 2)) + (min i j)))]) (.tmp rfl .nil)
  obtain rfl := Option.some.inj H
  exact leave ht rfl hres ⟨rfl, ((hm.pick [] rfl (by decide)).pickφ [] rfl).post fun _ h => h⟩

/-! ### impl_Colouring_at: function 57 ((*loop.example/g01362/impl.Colouring).at) -/
def impl_Colouring_at.f (x : Col) (i : Int) (j : Int) : Option (Int) := (impl_number.f i j).bind fun t1 => (getB 136 x.e t1).bind fun t2 => some (w64 t2)
set_option maxRecDepth 100000 in
set_option maxHeartbeats 1000000 in
theorem impl_Colouring_at.calls (X : List Nat) (w0 : World) (b : Nat) (x : Col) (i : Int) (j : Int) (r : Int)
    (hp : Pre X w0 [.blk b 27 (Col.cells x)] []) (H : impl_Colouring_at.f x i j = some r) :
    Calls Try.prog 57 [.pointer (some ⟨b, 0, none⟩), .int .i64 i, .int .i64 j].toArray w0 (Ret fun v w => v = .int .i64 r ∧ Post X (fps [.blk b 27 (Col.cells x)]) w0 [.blk b 27 (Col.cells x)] [] w) := by
  unfold impl_Colouring_at.f at H
  refine enterM (n := 16) hp Try.func57 rfl rfl (Nat.le_of_ble_eq_true rfl) fun a w ht hm => ?_
  refine wp_seq ?_
  refine wpr ?_
  refine wpl rfl rfl ht (ev_assign ht rfl rfl) ?_
  intro a ht
  refine wpList_nil ?_
  refine then_normal ?_
  refine wp_seq ?_
  refine wph_begin (fun w => Ms X (fps [.blk b 27 (Col.cells x)]) w0 [.blk b 27 (Col.cells x)] [] w) mixed ?_
  replace hm := hm.drew
  have hS : Ms X (fps [.blk b 27 (Col.cells x)]) w0 [.blk b 27 (Col.cells x)] [] w.drew := (hm.pick [0] rfl (by decide)).pickφ [] rfl
  generalize w.drew = w at hm hS ⊢
  refine wph_take (i := 0) rfl (by kernel_rfl) (by kernel_rfl) (by kernel_rfl) (fun _ _ _ h => h) rfl ht hS (wanted_plain rfl) (fun w hm => ev_move ht rfl rfl) ?_
  intro a ht
  refine wph_take (i := 1) rfl (by kernel_rfl) (by kernel_rfl) (by kernel_rfl) (fun _ _ _ h => h) rfl ht hS (wanted_plain rfl) (fun w hm => ev_move ht rfl rfl) ?_
  intro a ht
  refine wph_take (i := 2) rfl (by kernel_rfl) (by kernel_rfl) (by kernel_rfl) (fun _ _ _ h => h) rfl ht hS (wanted_plain rfl) (fun w hm => ev_move ht rfl rfl) ?_
  intro a ht
  refine wph_take (i := 4) rfl (by kernel_rfl) (by kernel_rfl) (by kernel_rfl) (fun _ _ _ h => h) rfl ht hS (wanted_plain rfl) (fun w hm => ev_nilCheck ht rfl rfl) ?_
  intro a ht
  refine wph_take (i := 5) rfl (by kernel_rfl) (by kernel_rfl) (by kernel_rfl) (fun _ _ _ h => h) rfl ht hS (wanted_plain rfl) (fun w hm => ev_fieldAddr ht rfl rfl fo_27_2) ?_
  intro a ht
  refine wph_one (i := 3) (by kernel_rfl) (wph_step rfl ?_)
  obtain ⟨t1, et1, H⟩ := bind_get H
  have hcall := impl_number.calls _ _ i j _ ((fun (hq : Ms _ _ _ ([] ++ [.blk b 27 (Col.cells x)]) _ _) => hq.lend (φp := []) (allRO_nil)) (hm.pick (own' := [] ++ [.blk b 27 (Col.cells x)]) [0] rfl (by decide))) et1
  refine wpl_call _ rfl rfl ht rfl rfl rfl rfl can_71 hcall ?_
  clear hcall
  rintro _ w ⟨rfl, hpost⟩ a ht
  replace hm := (hm.pick (own' := [] ++ [.blk b 27 (Col.cells x)]) [0] rfl (by decide)).backL hpost
  clear hpost
  have hS : Ms X (fps [.blk b 27 (Col.cells x)]) w0 [.blk b 27 (Col.cells x)] [] w := (hm.pick [0] rfl (by decide)).pickφ [] rfl
  refine wpList_nil (qn ⟨hS, ?_⟩)
  obtain ⟨t2, et2, H⟩ := bind_get H
  refine wph_take (i := 6) rfl (by kernel_rfl) (by kernel_rfl) (by kernel_rfl) (fun _ _ _ h => h) rfl ht hS (wanted_plain rfl) (fun w hm => ev_indexAddr_arr ht rfl rfl rfl ar_22 (getB_lo et2) (getB_hi et2)) ?_
  intro a ht
  refine wph_take (i := 7) rfl (by kernel_rfl) (by kernel_rfl) (by kernel_rfl) (fun _ _ _ h => h) rfl ht hS (wanted_plain rfl) (fun w hm => ev_load ht rfl rfl sc_5 (hm.blk_cell 0 rfl (Col.get et2))) ?_
  intro a ht
  refine wph_take (i := 8) rfl (by kernel_rfl) (by kernel_rfl) (by kernel_rfl) (fun _ _ _ h => h) rfl ht hS (wanted_plain rfl) (fun w hm => ev_convert ht rfl rfl und_5 und_2) ?_
  intro a ht
  refine wph_take (i := 9) rfl (by kernel_rfl) (by kernel_rfl) (by kernel_rfl) (fun _ _ _ h => h) rfl ht hS (wanted_plain rfl) (fun w hm => ev_assign ht rfl rfl) ?_
  intro a ht
  refine wph_done (by kernel_rfl) ?_
  refine then_normal ?_
  refine wp_ret ?_
  have hres := ht.res (P := Try.prog) (w := w) (rs := [.tmp 6]) (vs := [.int .i64 (w64 t2)]) (.tmp rfl .nil)
  obtain rfl := Option.some.inj H
  exact leave ht rfl hres ⟨rfl, ((hm.pick [0] rfl (by decide)).pickφ [] rfl).post fun _ h => h⟩

/-! ### impl_Colouring_put: function 56 ((*loop.example/g01362/impl.Colouring).put) -/
def impl_Colouring_put.f (x : Col) (i : Int) (j : Int) (c : Int) : Option (Col) := (impl_number.f i j).bind fun t3501 => (getB 136 x.e t3501).bind fun t8501 => some (Col.setE x t3501.toNat (w8 c))
set_option maxRecDepth 100000 in
set_option maxHeartbeats 1000000 in
theorem impl_Colouring_put.calls (X : List Nat) (w0 : World) (b : Nat) (x : Col) (i : Int) (j : Int) (c : Int) (r : Col)
    (hp : Pre X w0 [.blk b 27 (Col.cells x)] []) (H : impl_Colouring_put.f x i j c = some r) :
    Calls Try.prog 56 [.pointer (some ⟨b, 0, none⟩), .int .i64 i, .int .i64 j, .int .i64 c].toArray w0 (Ret fun v w => v = .tuple [].toArray ∧ Post X (fps [.blk b 27 (Col.cells x)]) w0 [.blk b 27 (Col.cells r)] [] w) := by
  unfold impl_Colouring_put.f at H
  refine enterM (n := 17) hp Try.func56 rfl rfl (Nat.le_of_ble_eq_true rfl) fun a w ht hm => ?_
  refine wph_begin (fun w => Ms X (fps [.blk b 27 (Col.cells x)]) w0 [] [] w) mixed ?_
  replace hm := hm.drew
  have hS : Ms X (fps [.blk b 27 (Col.cells x)]) w0 [] [] w.drew := (hm.pick [] rfl (by decide)).pickφ [] rfl
  generalize w.drew = w at hm hS ⊢
  refine wph_take (i := 0) rfl (by kernel_rfl) (by kernel_rfl) (by kernel_rfl) (fun _ _ _ h => h) rfl ht hS (wanted_plain rfl) (fun w hm => ev_move ht rfl rfl) ?_
  intro a ht
  refine wph_take (i := 1) rfl (by kernel_rfl) (by kernel_rfl) (by kernel_rfl) (fun _ _ _ h => h) rfl ht hS (wanted_plain rfl) (fun w hm => ev_move ht rfl rfl) ?_
  intro a ht
  refine wph_take (i := 2) rfl (by kernel_rfl) (by kernel_rfl) (by kernel_rfl) (fun _ _ _ h => h) rfl ht hS (wanted_plain rfl) (fun w hm => ev_move ht rfl rfl) ?_
  intro a ht
  refine wph_take (i := 4) rfl (by kernel_rfl) (by kernel_rfl) (by kernel_rfl) (fun _ _ _ h => h) rfl ht hS (wanted_plain rfl) (fun w hm => ev_move ht rfl rfl) ?_
  intro a ht
  refine wph_take (i := 5) rfl (by kernel_rfl) (by kernel_rfl) (by kernel_rfl) (fun _ _ _ h => h) rfl ht hS (wanted_plain rfl) (fun w hm => ev_convert ht rfl rfl und_2 und_5) ?_
  intro a ht
  refine wph_take (i := 6) rfl (by kernel_rfl) (by kernel_rfl) (by kernel_rfl) (fun _ _ _ h => h) rfl ht hS (wanted_plain rfl) (fun w hm => ev_nilCheck ht rfl rfl) ?_
  intro a ht
  refine wph_take (i := 7) rfl (by kernel_rfl) (by kernel_rfl) (by kernel_rfl) (fun _ _ _ h => h) rfl ht hS (wanted_plain rfl) (fun w hm => ev_fieldAddr ht rfl rfl fo_27_2) ?_
  intro a ht
  refine wph_one (i := 3) (by kernel_rfl) (wph_step rfl ?_)
  obtain ⟨t3501, et3501, H⟩ := bind_get H
  have hcall := impl_number.calls _ _ i j _ ((fun (hq : Ms _ _ _ ([] ++ [.blk b 27 (Col.cells x)]) _ _) => hq.lend (φp := []) (allRO_nil)) (hm.pick (own' := [] ++ [.blk b 27 (Col.cells x)]) [0] rfl (by decide))) et3501
  refine wpl_call _ rfl rfl ht rfl rfl rfl rfl can_71 hcall ?_
  clear hcall
  rintro _ w ⟨rfl, hpost⟩ a ht
  replace hm := (hm.pick (own' := [] ++ [.blk b 27 (Col.cells x)]) [0] rfl (by decide)).backL hpost
  clear hpost
  have hS : Ms X (fps [.blk b 27 (Col.cells x)]) w0 [] [] w := (hm.pick [] rfl (by decide)).pickφ [] rfl
  refine wpList_nil (qn ⟨hS, ?_⟩)
  obtain ⟨t8501, et8501, H⟩ := bind_get H
  refine wph_take (i := 8) rfl (by kernel_rfl) (by kernel_rfl) (by kernel_rfl) (fun _ _ _ h => h) rfl ht hS (wanted_plain rfl) (fun w hm => ev_indexAddr_arr ht rfl rfl rfl ar_22 (getB_lo et8501) (getB_hi et8501)) ?_
  intro a ht
  refine wph_one (i := 9) (by kernel_rfl) (wph_step rfl ?_)
  refine wpl_store_colE 0 rfl rfl ht hm rfl rfl rfl sz1_5 rfl et8501 ?_
  intro a ht w hm
  have hS : Ms X (fps [.blk b 27 (Col.cells x)]) w0 [] [] w := (hm.pick [] rfl (by decide)).pickφ [] rfl
  refine wpList_nil (qn ⟨hS, ?_⟩)
  refine wph_done (by kernel_rfl) ?_
  have hres := ht.res (P := Try.prog) (w := w) (rs := []) (vs := []) .nil
  obtain rfl := Option.some.inj H
  exact leave_end ht rfl hres ⟨rfl, ((hm.pick [0] rfl (by decide)).pickφ [] rfl).post fun _ h => h⟩

/-! ### impl_Colouring_renumbered: function 31 ((*loop.example/g01362/impl.Colouring).renumbered) -/
mutual
def impl_Colouring_renumbered.l0 : Nat → Col → List Int → Col → Int → Option (Col)
  | 0, _, _, _, _ => none
  | q12002 + 1, x, p, xs0_1, xs0_2 => if xs0_2 < x.p then (impl_Colouring_renumbered.l1 q12002 x p xs0_2 xs0_1 0) else (some xs0_1)
def impl_Colouring_renumbered.l1 : Nat → Col → List Int → Int → Col → Int → Option (Col)
  | 0, _, _, _, _, _ => none
  | q12004 + 1, x, p, xs0_2, xs1_1, xs1_2 => if xs1_2 < xs0_2 then ((getI p xs1_2).bind fun t14506 => (getI p xs0_2).bind fun t18506 => (impl_Colouring_at.f x xs1_2 xs0_2).bind fun t23506 => (impl_Colouring_put.f xs1_1 t14506 t18506 t23506).bind fun t24506 => impl_Colouring_renumbered.l1 q12004 x p xs0_2 t24506 (w64 (xs1_2 + 1))) else (impl_Colouring_renumbered.l0 q12004 x p xs1_1 (w64 (xs0_2 + 1)))
end
def impl_Colouring_renumbered.f (k : Nat) (x : Col) (p : List Int) : Option (Col) := impl_Colouring_renumbered.l0 k x p (Col.mk x.p x.k (fun _ => 0)) 0
set_option maxRecDepth 100000 in
set_option maxHeartbeats 1000000 in
theorem impl_Colouring_renumbered.calls (k : Nat) (X : List Nat) (w0 : World) (b : Nat) (A : Option Addr) (c : Nat) (m : Nat) (x : Col) (p : List Int) (r : Col)
    (hp : Pre X w0 [.blk b 27 (Col.cells x)] [IntsAt A c m p]) (H : impl_Colouring_renumbered.f k x p = some r) :
    Calls Try.prog 31 [.pointer (some ⟨b, 0, none⟩), .slice A m c].toArray w0 (Ret fun v w => v = .agg (Col.cells r).toArray ∧ Post X (fps [.blk b 27 (Col.cells x)]) w0 [.blk b 27 (Col.cells x)] [] w) := by
  unfold impl_Colouring_renumbered.f at H
  refine enterM (n := 44) hp Try.func31 rfl rfl (Nat.le_of_ble_eq_true rfl) fun a w ht hm => ?_
  refine wp_seq ?_
  refine wpr ?_
  refine wpl_alloc rfl rfl ht hm rfl zo_27 ?_
  intro b1 a ht w hm
  refine wpList_nil ?_
  refine then_normal ?_
  refine wp_seq ?_
  refine wph_begin (fun w => Ms X (fps [.blk b 27 (Col.cells x)]) w0 [.blk b1 27 (Col.cells Col.zero), .blk b 27 (Col.cells x)] [IntsAt A c m p] w) mixed ?_
  replace hm := hm.drew
  have hS : Ms X (fps [.blk b 27 (Col.cells x)]) w0 [.blk b1 27 (Col.cells Col.zero), .blk b 27 (Col.cells x)] [IntsAt A c m p] w.drew := (hm.pick [0, 1] rfl (by decide)).pickφ [0] rfl
  generalize w.drew = w at hm hS ⊢
  refine wph_take (i := 0) rfl (by kernel_rfl) (by kernel_rfl) (by kernel_rfl) (fun _ _ _ h => h) rfl ht hS (wanted_plain rfl) (fun w hm => ev_move ht rfl rfl) ?_
  intro a ht
  refine wph_take (i := 1) rfl (by kernel_rfl) (by kernel_rfl) (by kernel_rfl) (fun _ _ _ h => h) rfl ht hS (wanted_plain rfl) (fun w hm => ev_nilCheck ht rfl rfl) ?_
  intro a ht
  refine wph_take (i := 2) rfl (by kernel_rfl) (by kernel_rfl) (by kernel_rfl) (fun _ _ _ h => h) rfl ht hS (wanted_plain rfl) (fun w hm => ev_fieldAddr ht rfl rfl fo_27_0) ?_
  intro a ht
  refine wph_take (i := 3) rfl (by kernel_rfl) (by kernel_rfl) (by kernel_rfl) (fun _ _ _ h => h) rfl ht hS (wanted_plain rfl) (fun w hm => ev_load ht rfl rfl sc_2 (hm.blk_cell 1 rfl rfl)) ?_
  intro a ht
  refine wph_take (i := 4) rfl (by kernel_rfl) (by kernel_rfl) (by kernel_rfl) (fun _ _ _ h => h) rfl ht hS (wanted_plain rfl) (fun w hm => ev_move ht rfl rfl) ?_
  intro a ht
  refine wph_take (i := 5) rfl (by kernel_rfl) (by kernel_rfl) (by kernel_rfl) (fun _ _ _ h => h) rfl ht hS (wanted_plain rfl) (fun w hm => ev_nilCheck ht rfl rfl) ?_
  intro a ht
  refine wph_take (i := 6) rfl (by kernel_rfl) (by kernel_rfl) (by kernel_rfl) (fun _ _ _ h => h) rfl ht hS (wanted_plain rfl) (fun w hm => ev_fieldAddr ht rfl rfl fo_27_1) ?_
  intro a ht
  refine wph_take (i := 7) rfl (by kernel_rfl) (by kernel_rfl) (by kernel_rfl) (fun _ _ _ h => h) rfl ht hS (wanted_plain rfl) (fun w hm => ev_load ht rfl rfl sc_2 (hm.blk_cell 1 rfl rfl)) ?_
  intro a ht
  refine wph_take (i := 8) rfl (by kernel_rfl) (by kernel_rfl) (by kernel_rfl) (fun _ _ _ h => h) rfl ht hS (wanted_plain rfl) (fun w hm => ev_build ht rfl bi_27 rfl (fill_col _ _)) ?_
  intro a ht
  refine wph_one (i := 9) (by kernel_rfl) (wph_step rfl ?_)
  refine wpl_alloc rfl rfl ht hm rfl zo_27 ?_
  intro b9502 a ht w hm
  have hS : Ms X (fps [.blk b 27 (Col.cells x)]) w0 [.blk b1 27 (Col.cells Col.zero), .blk b 27 (Col.cells x)] [IntsAt A c m p] w := (hm.pick [1, 2] rfl (by decide)).pickφ [0] rfl
  refine wpList_nil (qn ⟨hS, ?_⟩)
  refine wph_one (i := 10) (by kernel_rfl) (wph_step rfl ?_)
  refine wpl_store_whole 0 rfl rfl ht hm rfl rfl rfl (szn_27.trans (by first | rw [Col.length_cells] | rfl)) rfl (by simp only [Col.length_cells]) (Col.cells_one _) ?_
  intro a ht w hm
  have hS : Ms X (fps [.blk b 27 (Col.cells x)]) w0 [.blk b1 27 (Col.cells Col.zero), .blk b 27 (Col.cells x)] [IntsAt A c m p] w := (hm.pick [1, 2] rfl (by decide)).pickφ [0] rfl
  refine wpList_nil (qn ⟨hS, ?_⟩)
  refine wph_done (by kernel_rfl) ?_
  refine then_normal ?_
  refine wp_seq ?_
  refine wp_seq ?_
  refine wpr ?_
  refine wpl rfl rfl ht (ev_move ht rfl rfl) ?_
  intro a ht
  refine wpl rfl rfl ht (ev_nilCheck ht rfl rfl) ?_
  intro a ht
  refine wpl rfl rfl ht (ev_fieldAddr ht rfl rfl fo_27_0) ?_
  intro a ht
  refine wpl rfl rfl ht (ev_load ht rfl rfl sc_2 (hm.blk_cell 2 rfl rfl)) ?_
  intro a ht
  refine wpl rfl rfl ht (ev_move ht rfl rfl) ?_
  intro a ht
  refine wpList_nil ?_
  refine then_normal ?_
  refine wp_block ?_
  refine wpLoop (fun q a w => ∃ (xs0_1 : Col) (xs0_2 : Int), impl_Colouring_renumbered.l0 q x p xs0_1 xs0_2 = some r ∧ q ≤ k ∧ Tm 44 [(0, .pointer (some ⟨b, 0, none⟩)), (1, .slice A m c), (4, .pointer (some ⟨b1, 0, none⟩)), (5, .pointer (some ⟨b9502, 0, none⟩)), (20, .int .i64 x.p), (21, .int .i64 xs0_2)] a ∧ Ms X (fps [.blk b 27 (Col.cells x)]) w0 [.blk b9502 27 (Col.cells xs0_1), .blk b1 27 (Col.cells Col.zero), .blk b 27 (Col.cells x)] [IntsAt A c m p] w) (k0 := k) ⟨(Col.mk x.p x.k (fun _ => 0)), 0, H, Nat.le_refl _, ht.sub ⟨rfl, rfl, rfl, rfl, rfl, rfl, trivial⟩, (hm.pick [0, 1, 2] rfl (by decide)).pickφ [0] rfl⟩ ?_
  clear H ht hm
  intro q12002 a w hJ
  obtain ⟨xs0_1, xs0_2, H, hqq12002, ht, hm⟩ := hJ
  cases q12002 with
  | zero => cases H
  | succ q12002 =>
  rw [impl_Colouring_renumbered.l0] at H
  refine wp_seq ?_
  refine wpr ?_
  refine wpl rfl rfl ht (ev_cmp ht rfl rfl rfl rfl) ?_
  intro a ht
  refine wpList_nil ?_
  refine then_normal ?_
  refine wp_seq ?_
  by_cases h12003 : xs0_2 < x.p
  · replace H := ite_yes h12003 H
    refine wpc_yes ht rfl (decide_eq_true h12003) ?_
    refine wp_skip ?_
    refine then_normal ?_
    refine wp_seq ?_
    refine wp_block ?_
    refine wp_seq ?_
    refine wpr ?_
    refine wpl rfl rfl ht (ev_move ht rfl rfl) ?_
    intro a ht
    refine wpl rfl rfl ht (ev_assign ht rfl rfl) ?_
    intro a ht
    refine wpList_nil ?_
    refine then_normal ?_
    refine wp_seq ?_
    refine wpr ?_
    refine wpl rfl rfl ht (ev_move ht rfl rfl) ?_
    intro a ht
    refine wpl rfl rfl ht (ev_move ht rfl rfl) ?_
    intro a ht
    refine wpList_nil ?_
    refine then_normal ?_
    refine wp_block ?_
    refine wpLoop (fun q a w => ∃ (xs1_1 : Col) (xs1_2 : Int), impl_Colouring_renumbered.l1 q x p xs0_2 xs1_1 xs1_2 = some r ∧ q ≤ q12002 ∧ Tm 44 [(0, .pointer (some ⟨b, 0, none⟩)), (1, .slice A m c), (4, .pointer (some ⟨b1, 0, none⟩)), (5, .pointer (some ⟨b9502, 0, none⟩)), (6, .int .i64 xs0_2), (20, .int .i64 x.p), (21, .int .i64 xs0_2), (22, .bool (decide (xs0_2 < x.p))), (23, .int .i64 xs0_2), (24, .int .i64 xs0_2), (25, .int .i64 xs1_2)] a ∧ Ms X (fps [.blk b 27 (Col.cells x)]) w0 [.blk b9502 27 (Col.cells xs1_1), .blk b1 27 (Col.cells Col.zero), .blk b 27 (Col.cells x)] [IntsAt A c m p] w) (k0 := q12002) ⟨xs0_1, 0, H, Nat.le_refl _, ht.sub ⟨rfl, rfl, rfl, rfl, rfl, rfl, rfl, rfl, rfl, rfl, rfl, trivial⟩, (hm.pick [0, 1, 2] rfl (by decide)).pickφ [0] rfl⟩ ?_
    clear H ht hm
    intro q12004 a w hJ
    obtain ⟨xs1_1, xs1_2, H, hqq12004, ht, hm⟩ := hJ
    cases q12004 with
    | zero => cases H
    | succ q12004 =>
    rw [impl_Colouring_renumbered.l1] at H
    refine wp_seq ?_
    refine wpr ?_
    refine wpl rfl rfl ht (ev_cmp ht rfl rfl rfl rfl) ?_
    intro a ht
    refine wpList_nil ?_
    refine then_normal ?_
    refine wp_seq ?_
    by_cases h12005 : xs1_2 < xs0_2
    · replace H := ite_yes h12005 H
      refine wpc_yes ht rfl (decide_eq_true h12005) ?_
      refine wp_skip ?_
      refine then_normal ?_
      refine wp_seq ?_
      refine wp_block ?_
      refine wp_seq ?_
      refine wpr ?_
      refine wpl rfl rfl ht (ev_move ht rfl rfl) ?_
      intro a ht
      refine wpl rfl rfl ht (ev_assign ht rfl rfl) ?_
      intro a ht
      refine wpList_nil ?_
      refine then_normal ?_
      refine wph_begin (fun w => Ms X (fps [.blk b 27 (Col.cells x)]) w0 [.blk b1 27 (Col.cells Col.zero), .blk b 27 (Col.cells x)] [IntsAt A c m p] w) mixed ?_
      replace hm := hm.drew
      have hS : Ms X (fps [.blk b 27 (Col.cells x)]) w0 [.blk b1 27 (Col.cells Col.zero), .blk b 27 (Col.cells x)] [IntsAt A c m p] w.drew := (hm.pick [1, 2] rfl (by decide)).pickφ [0] rfl
      generalize w.drew = w at hm hS ⊢
      refine wph_take (i := 0) rfl (by kernel_rfl) (by kernel_rfl) (by kernel_rfl) (fun _ _ _ h => h) rfl ht hS (wanted_plain rfl) (fun w hm => ev_move ht rfl rfl) ?_
      intro a ht
      refine wph_take (i := 1) rfl (by kernel_rfl) (by kernel_rfl) (by kernel_rfl) (fun _ _ _ h => h) rfl ht hS (wanted_plain rfl) (fun w hm => ev_move ht rfl rfl) ?_
      intro a ht
      obtain ⟨t14506, et14506, H⟩ := bind_get H
      refine wph_take (i := 2) rfl (by kernel_rfl) (by kernel_rfl) (by kernel_rfl) (fun _ _ _ h => h) rfl ht hS (wanted_plain rfl) (fun w hm => ev_index_ints ht rfl rfl rfl so_43 (hm.fact (φ := IntsAt A c m p) 0 rfl) et14506) ?_
      intro a ht
      refine wph_take (i := 3) rfl (by kernel_rfl) (by kernel_rfl) (by kernel_rfl) (fun _ _ _ h => h) rfl ht hS (wanted_plain rfl) (fun w hm => ev_load ht rfl rfl sc_2 (RowAt.cell (hm.fact (φ := IntsAt A c m p) 0 rfl) (ints_get et14506) rfl)) ?_
      intro a ht
      refine wph_take (i := 4) rfl (by kernel_rfl) (by kernel_rfl) (by kernel_rfl) (fun _ _ _ h => h) rfl ht hS (wanted_plain rfl) (fun w hm => ev_move ht rfl rfl) ?_
      intro a ht
      refine wph_take (i := 5) rfl (by kernel_rfl) (by kernel_rfl) (by kernel_rfl) (fun _ _ _ h => h) rfl ht hS (wanted_plain rfl) (fun w hm => ev_move ht rfl rfl) ?_
      intro a ht
      obtain ⟨t18506, et18506, H⟩ := bind_get H
      refine wph_take (i := 6) rfl (by kernel_rfl) (by kernel_rfl) (by kernel_rfl) (fun _ _ _ h => h) rfl ht hS (wanted_plain rfl) (fun w hm => ev_index_ints ht rfl rfl rfl so_43 (hm.fact (φ := IntsAt A c m p) 0 rfl) et18506) ?_
      intro a ht
      refine wph_take (i := 7) rfl (by kernel_rfl) (by kernel_rfl) (by kernel_rfl) (fun _ _ _ h => h) rfl ht hS (wanted_plain rfl) (fun w hm => ev_load ht rfl rfl sc_2 (RowAt.cell (hm.fact (φ := IntsAt A c m p) 0 rfl) (ints_get et18506) rfl)) ?_
      intro a ht
      refine wph_take (i := 8) rfl (by kernel_rfl) (by kernel_rfl) (by kernel_rfl) (fun _ _ _ h => h) rfl ht hS (wanted_plain rfl) (fun w hm => ev_move ht rfl rfl) ?_
      intro a ht
      refine wph_take (i := 9) rfl (by kernel_rfl) (by kernel_rfl) (by kernel_rfl) (fun _ _ _ h => h) rfl ht hS (wanted_plain rfl) (fun w hm => ev_move ht rfl rfl) ?_
      intro a ht
      refine wph_take (i := 10) rfl (by kernel_rfl) (by kernel_rfl) (by kernel_rfl) (fun _ _ _ h => h) rfl ht hS (wanted_plain rfl) (fun w hm => ev_move ht rfl rfl) ?_
      intro a ht
      refine wph_one (i := 11) (by kernel_rfl) (wph_step rfl ?_)
      obtain ⟨t23506, et23506, H⟩ := bind_get H
      have hcall := impl_Colouring_at.calls _ _ b x xs1_2 xs0_2 _ ((fun (hq : Ms _ _ _ ([.blk b 27 (Col.cells x)] ++ [.blk b9502 27 (Col.cells xs1_1), .blk b1 27 (Col.cells Col.zero)]) _ _) => hq.lend (φp := []) (allRO_nil)) (hm.pick (own' := [.blk b 27 (Col.cells x)] ++ [.blk b9502 27 (Col.cells xs1_1), .blk b1 27 (Col.cells Col.zero)]) [2, 0, 1] rfl (by decide))) et23506
      refine wpl_call _ rfl rfl ht rfl rfl rfl rfl can_57 hcall ?_
      clear hcall
      rintro _ w ⟨rfl, hpost⟩ a ht
      replace hm := (hm.pick (own' := [.blk b 27 (Col.cells x)] ++ [.blk b9502 27 (Col.cells xs1_1), .blk b1 27 (Col.cells Col.zero)]) [2, 0, 1] rfl (by decide)).backL hpost
      clear hpost
      have hS : Ms X (fps [.blk b 27 (Col.cells x)]) w0 [.blk b1 27 (Col.cells Col.zero), .blk b 27 (Col.cells x)] [IntsAt A c m p] w := (hm.pick [2, 0] rfl (by decide)).pickφ [0] rfl
      refine wpList_nil (qn ⟨hS, ?_⟩)
      refine wph_one (i := 12) (by kernel_rfl) (wph_step rfl ?_)
      obtain ⟨t24506, et24506, H⟩ := bind_get H
      have hcall := impl_Colouring_put.calls _ _ b9502 xs1_1 t14506 t18506 t23506 _ ((fun (hq : Ms _ _ _ ([.blk b9502 27 (Col.cells xs1_1)] ++ [.blk b 27 (Col.cells x), .blk b1 27 (Col.cells Col.zero)]) _ _) => hq.lend (φp := []) (allRO_nil)) (hm.pick (own' := [.blk b9502 27 (Col.cells xs1_1)] ++ [.blk b 27 (Col.cells x), .blk b1 27 (Col.cells Col.zero)]) [1, 0, 2] rfl (by decide))) et24506
      refine wpl_call _ rfl rfl ht rfl rfl rfl rfl can_56 hcall ?_
      clear hcall
      rintro _ w ⟨rfl, hpost⟩ a ht
      replace hm := (hm.pick (own' := [.blk b9502 27 (Col.cells xs1_1)] ++ [.blk b 27 (Col.cells x), .blk b1 27 (Col.cells Col.zero)]) [1, 0, 2] rfl (by decide)).backL hpost
      clear hpost
      have hS : Ms X (fps [.blk b 27 (Col.cells x)]) w0 [.blk b1 27 (Col.cells Col.zero), .blk b 27 (Col.cells x)] [IntsAt A c m p] w := (hm.pick [2, 1] rfl (by decide)).pickφ [0] rfl
      refine wpList_nil (qn ⟨hS, ?_⟩)
      refine wph_done (by kernel_rfl) ?_
      refine blk_normal ?_
      refine then_normal ?_
      refine wpr ?_
      refine wpl rfl rfl ht (ev_arith ht rfl rfl rfl rfl) ?_
      intro a ht
      refine wpl rfl rfl ht (ev_move ht rfl rfl) ?_
      intro a ht
      refine wpList_nil ?_
      exact then_normal ⟨q12004, by omega, t24506, (w64 (xs1_2 + 1)), H, by omega, ht.sub ⟨rfl, rfl, rfl, rfl, rfl, rfl, rfl, rfl, rfl, rfl, rfl, trivial⟩, (hm.pick [0, 2, 1] rfl (by decide)).pickφ [0] rfl⟩
    · replace H := ite_no h12005 H
      refine wpc_no ht rfl (decide_eq_false h12005) ?_
      refine wp_exit ?_
      refine then_exit ?_
      refine then_exit ?_
      refine blk_hit ?_
      refine blk_normal ?_
      refine then_normal ?_
      refine wpr ?_
      refine wpl rfl rfl ht (ev_arith ht rfl rfl rfl rfl) ?_
      intro a ht
      refine wpl rfl rfl ht (ev_move ht rfl rfl) ?_
      intro a ht
      refine wpList_nil ?_
      exact then_normal ⟨q12004, by omega, xs1_1, (w64 (xs0_2 + 1)), H, by omega, ht.sub ⟨rfl, rfl, rfl, rfl, rfl, rfl, trivial⟩, (hm.pick [0, 1, 2] rfl (by decide)).pickφ [0] rfl⟩
  · replace H := ite_no h12003 H
    refine wpc_no ht rfl (decide_eq_false h12003) ?_
    refine wp_exit ?_
    refine then_exit ?_
    refine then_exit ?_
    refine blk_hit ?_
    refine then_normal ?_
    refine wp_seq ?_
    refine wpr ?_
    refine wpl rfl rfl ht (ev_load_agg ht rfl rfl (ag_27.trans (by first | rw [Col.length_cells] | rfl)) (hm.blk_all 0 rfl)) ?_
    intro a ht
    refine wpl_store_whole 1 rfl rfl ht hm rfl rfl rfl (szn_27.trans (by first | rw [Col.length_cells] | rfl)) rfl (by simp only [Col.length_cells]) (Col.cells_one _) ?_
    intro a ht w hm
    refine wpList_nil ?_
    refine then_normal ?_
    refine wp_ret ?_
    have hres := ht.res (P := Try.prog) (w := w) (rs := [.cell 4 27]) (vs := [.agg (Col.cells xs0_1).toArray]) (.agg rfl (ag_27.trans (by first | rw [Col.length_cells] | rfl)) (hm.blk_all 1 rfl) .nil)
    obtain rfl := Option.some.inj H
    exact leave ht rfl hres ⟨rfl, ((hm.pick [2] rfl (by decide)).pickφ [] rfl).post fun _ h => h⟩

/-! ### cmp_isNaN_byte: function 72 (cmp.isNaN[byte]) -/
def cmp_isNaN_byte.f (x : Int) : Option (Bool) := some (decide (x ≠ x))
set_option maxRecDepth 100000 in
set_option maxHeartbeats 1000000 in
theorem cmp_isNaN_byte.calls (X : List Nat) (w0 : World)  (x : Int) (r : Bool)
    (hp : Pre X w0 [] []) (H : cmp_isNaN_byte.f x = some r) :
    Calls Try.prog 72 [.int .u8 x].toArray w0 (Ret fun v w => v = .bool r ∧ Post X (fps []) w0 [] [] w) := by
  unfold cmp_isNaN_byte.f at H
  refine enterM (n := 6) hp Try.func72 rfl rfl (Nat.le_of_ble_eq_true rfl) fun a w ht hm => ?_
  refine wp_seq ?_
  refine wpr ?_
  refine wpl rfl rfl ht (ev_assign ht rfl rfl) ?_
  intro a ht
  refine wpList_nil ?_
  refine then_normal ?_
  refine wp_seq ?_
  refine wpr ?_
  refine wpl rfl rfl ht (ev_move ht rfl rfl) ?_
  intro a ht
  refine wpl rfl rfl ht (ev_move ht rfl rfl) ?_
  intro a ht
  refine wpl rfl rfl ht (ev_cmp ht rfl rfl rfl rfl) ?_
  intro a ht
  refine wpl rfl rfl ht (ev_assign ht rfl rfl) ?_
  intro a ht
  refine wpList_nil ?_
  refine then_normal ?_
  refine wp_ret ?_
  have hres := ht.res (P := Try.prog) (w := w) (rs := [.tmp 2]) (vs := [.bool (decide (x ≠ x))]) (.tmp rfl .nil)
  obtain rfl := Option.some.inj H
  exact leave ht rfl hres ⟨rfl, ((hm.pick [] rfl (by decide)).pickφ [] rfl).post fun _ h => h⟩

/-! ### cmp_Compare_byte: function 58 (cmp.Compare[byte]) -/
def cmp_Compare_byte.f (x : Int) (y : Int) : Option (Int) := (cmp_isNaN_byte.f x).bind fun t1 => (cmp_isNaN_byte.f y).bind fun t2 => if t1 = true then (if t2 = true then (some 0) else (some (-1))) else (if t2 = true then (some 1) else (if x < y then (some (-1)) else (if x > y then (some 1) else (some 0))))
set_option maxRecDepth 100000 in
set_option maxHeartbeats 1000000 in
theorem cmp_Compare_byte.calls (X : List Nat) (w0 : World)  (x : Int) (y : Int) (r : Int)
    (hp : Pre X w0 [] []) (H : cmp_Compare_byte.f x y = some r) :
    Calls Try.prog 58 [.int .u8 x, .int .u8 y].toArray w0 (Ret fun v w => v = .int .i64 r ∧ Post X (fps []) w0 [] [] w) := by
  unfold cmp_Compare_byte.f at H
  refine enterM (n := 20) hp Try.func58 rfl rfl (Nat.le_of_ble_eq_true rfl) fun a w ht hm => ?_
  refine wp_seq ?_
  refine wpr ?_
  refine wpl rfl rfl ht (ev_assign ht rfl rfl) ?_
  intro a ht
  refine wpList_nil ?_
  refine then_normal ?_
  refine wp_seq ?_
  refine wpr ?_
  refine wpl rfl rfl ht (ev_move ht rfl rfl) ?_
  intro a ht
  obtain ⟨t1, et1, H⟩ := bind_get H
  have hcall := cmp_isNaN_byte.calls _ _ x _ ((fun (hq : Ms _ _ _ ([] ++ []) _ _) => hq.lend (φp := []) (allRO_nil)) (hm.pick (own' := [] ++ []) [] rfl (by decide))) et1
  refine wpl_call _ rfl rfl ht rfl rfl rfl rfl can_72 hcall ?_
  clear hcall
  rintro _ w ⟨rfl, hpost⟩ a ht
  replace hm := (hm.pick (own' := [] ++ []) [] rfl (by decide)).backL hpost
  clear hpost
  refine wpl rfl rfl ht (ev_assign ht rfl rfl) ?_
  intro a ht
  refine wpList_nil ?_
  refine then_normal ?_
  refine wp_seq ?_
  refine wpr ?_
  refine wpl rfl rfl ht (ev_move ht rfl rfl) ?_
  intro a ht
  obtain ⟨t2, et2, H⟩ := bind_get H
  have hcall := cmp_isNaN_byte.calls _ _ y _ ((fun (hq : Ms _ _ _ ([] ++ []) _ _) => hq.lend (φp := []) (allRO_nil)) (hm.pick (own' := [] ++ []) [] rfl (by decide))) et2
  refine wpl_call _ rfl rfl ht rfl rfl rfl rfl can_72 hcall ?_
  clear hcall
  rintro _ w ⟨rfl, hpost⟩ a ht
  replace hm := (hm.pick (own' := [] ++ []) [] rfl (by decide)).backL hpost
  clear hpost
  refine wpl rfl rfl ht (ev_assign ht rfl rfl) ?_
  intro a ht
  refine wpList_nil ?_
  refine then_normal ?_
  refine wp_seq ?_
  refine wp_seq ?_
  refine wpr ?_
  refine wpl rfl rfl ht (ev_move ht rfl rfl) ?_
  intro a ht
  refine wpList_nil ?_
  refine then_normal ?_
  by_cases h3 : t1 = true
  · replace H := ite_yes h3 H
    refine wpc_yes ht rfl h3 ?_
    refine wp_seq ?_
    refine wp_seq ?_
    refine wpr ?_
    refine wpl rfl rfl ht (ev_move ht rfl rfl) ?_
    intro a ht
    refine wpList_nil ?_
    refine then_normal ?_
    by_cases h4 : t2 = true
    · replace H := ite_yes h4 H
      refine wpc_yes ht rfl h4 ?_
      refine wp_seq ?_
      refine wpr ?_
      refine wpl rfl rfl ht (ev_assign ht rfl rfl) ?_
      intro a ht
      refine wpList_nil ?_
      refine then_normal ?_
      refine wp_ret ?_
      refine then_ret ?_
      refine then_ret ?_
      have hres := ht.res (P := Try.prog) (w := w) (rs := [.tmp 4]) (vs := [.int .i64 0]) (.tmp rfl .nil)
      obtain rfl := Option.some.inj H
      exact leave ht rfl hres ⟨rfl, ((hm.pick [] rfl (by decide)).pickφ [] rfl).post fun _ h => h⟩
    · replace H := ite_no h4 H
      refine wpc_no ht rfl (Bool.eq_false_iff.mpr h4) ?_
      refine wp_skip ?_
      refine then_normal ?_
      refine wp_seq ?_
      refine wpr ?_
      refine wpl rfl rfl ht (ev_assign ht rfl rfl) ?_
      intro a ht
      refine wpList_nil ?_
      refine then_normal ?_
      refine wp_ret ?_
      refine then_ret ?_
      have hres := ht.res (P := Try.prog) (w := w) (rs := [.tmp 4]) (vs := [.int .i64 (-1)]) (.tmp rfl .nil)
      obtain rfl := Option.some.inj H
      exact leave ht rfl hres ⟨rfl, ((hm.pick [] rfl (by decide)).pickφ [] rfl).post fun _ h => h⟩
  · replace H := ite_no h3 H
    refine wpc_no ht rfl (Bool.eq_false_iff.mpr h3) ?_
    refine wp_skip ?_
    refine then_normal ?_
    refine wp_seq ?_
    refine wp_seq ?_
    refine wpr ?_
    refine wpl rfl rfl ht (ev_move ht rfl rfl) ?_
    intro a ht
    refine wpList_nil ?_
    refine then_normal ?_
    by_cases h5 : t2 = true
    · replace H := ite_yes h5 H
      refine wpc_yes ht rfl h5 ?_
      refine wp_seq ?_
      refine wpr ?_
      refine wpl rfl rfl ht (ev_assign ht rfl rfl) ?_
      intro a ht
      refine wpList_nil ?_
      refine then_normal ?_
      refine wp_ret ?_
      refine then_ret ?_
      have hres := ht.res (P := Try.prog) (w := w) (rs := [.tmp 4]) (vs := [.int .i64 1]) (.tmp rfl .nil)
      obtain rfl := Option.some.inj H
      exact leave ht rfl hres ⟨rfl, ((hm.pick [] rfl (by decide)).pickφ [] rfl).post fun _ h => h⟩
    · replace H := ite_no h5 H
      refine wpc_no ht rfl (Bool.eq_false_iff.mpr h5) ?_
      refine wp_skip ?_
      refine then_normal ?_
      refine wp_seq ?_
      refine wp_seq ?_
      refine wpr ?_
      refine wpl rfl rfl ht (ev_move ht rfl rfl) ?_
      intro a ht
      refine wpl rfl rfl ht (ev_move ht rfl rfl) ?_
      intro a ht
      refine wpl rfl rfl ht (ev_cmp ht rfl rfl rfl rfl) ?_
      intro a ht
      refine wpList_nil ?_
      refine then_normal ?_
      by_cases h6 : x < y
      · replace H := ite_yes h6 H
        refine wpc_yes ht rfl (decide_eq_true h6) ?_
        refine wp_seq ?_
        refine wpr ?_
        refine wpl rfl rfl ht (ev_assign ht rfl rfl) ?_
        intro a ht
        refine wpList_nil ?_
        refine then_normal ?_
        refine wp_ret ?_
        refine then_ret ?_
        have hres := ht.res (P := Try.prog) (w := w) (rs := [.tmp 4]) (vs := [.int .i64 (-1)]) (.tmp rfl .nil)
        obtain rfl := Option.some.inj H
        exact leave ht rfl hres ⟨rfl, ((hm.pick [] rfl (by decide)).pickφ [] rfl).post fun _ h => h⟩
      · replace H := ite_no h6 H
        refine wpc_no ht rfl (decide_eq_false h6) ?_
        refine wp_skip ?_
        refine then_normal ?_
        refine wp_seq ?_
        refine wp_seq ?_
        refine wpr ?_
        refine wpl rfl rfl ht (ev_move ht rfl rfl) ?_
        intro a ht
        refine wpl rfl rfl ht (ev_move ht rfl rfl) ?_
        intro a ht
        refine wpl rfl rfl ht (ev_cmp ht rfl rfl rfl rfl) ?_
        intro a ht
        refine wpList_nil ?_
        refine then_normal ?_
        by_cases h7 : x > y
        · replace H := ite_yes h7 H
          refine wpc_yes ht rfl (decide_eq_true h7) ?_
          refine wp_seq ?_
          refine wpr ?_
          refine wpl rfl rfl ht (ev_assign ht rfl rfl) ?_
          intro a ht
          refine wpList_nil ?_
          refine then_normal ?_
          refine wp_ret ?_
          refine then_ret ?_
          have hres := ht.res (P := Try.prog) (w := w) (rs := [.tmp 4]) (vs := [.int .i64 1]) (.tmp rfl .nil)
          obtain rfl := Option.some.inj H
          exact leave ht rfl hres ⟨rfl, ((hm.pick [] rfl (by decide)).pickφ [] rfl).post fun _ h => h⟩
        · replace H := ite_no h7 H
          refine wpc_no ht rfl (decide_eq_false h7) ?_
          refine wp_skip ?_
          refine then_normal ?_
          refine wp_seq ?_
          refine wpr ?_
          refine wpl rfl rfl ht (ev_assign ht rfl rfl) ?_
          intro a ht
          refine wpList_nil ?_
          refine then_normal ?_
          refine wp_ret ?_
          have hres := ht.res (P := Try.prog) (w := w) (rs := [.tmp 4]) (vs := [.int .i64 0]) (.tmp rfl .nil)
          obtain rfl := Option.some.inj H
          exact leave ht rfl hres ⟨rfl, ((hm.pick [] rfl (by decide)).pickφ [] rfl).post fun _ h => h⟩

end Go.Proofs.Ytbgniopmmankdaa.G
