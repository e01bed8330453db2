/- What each Go function computes, as a Lean function, and the proof that it does: written by a program of this session (wip/gen), part 9. -/
import Derived.Test.YtkceneefhbdifaaGFnCircularCounts8
namespace Go.Proofs.Ytkceneefhbdifaa.G
open Go Go.RowKit Go.Proofs.Ytkceneefhbdifaa.K
set_option linter.unusedVariables false
set_option linter.unusedSimpArgs false

/-! ### impl_Colouring_listOfCircular: function 29 ((*loop.example/g01362/impl.Colouring).listOfCircular) -/
def impl_Colouring_listOfCircular.l0 : Nat → Col → List Int → Int → Option (List Int × Bool)
  | 0, _, _, _ => none
  | q4 + 1, x, ls0_4, xs0_5 => if xs0_5 ≤ (w64 (Int.tdiv x.p 2)) then ((impl_Colouring_at.f x 0 xs0_5).bind fun t6 => (push ls0_4 t6).bind fun l11 => impl_Colouring_listOfCircular.l0 q4 x l11 (w64 (xs0_5 + 1))) else ((impl_circularOf.f q4 x.p x.k ls0_4).bind fun t12 => some (ls0_4, Col.same t12 x))
def impl_Colouring_listOfCircular.f (k : Nat) (x : Col) : Option (List Int × Bool) := if x.p < 2 then (some (([] : List Int), false)) else (impl_Colouring_listOfCircular.l0 k x ([] : List Int) 1)
set_option maxRecDepth 100000 in
set_option maxHeartbeats 20000000 in
theorem impl_Colouring_listOfCircular.calls (k : Nat) (X : List Nat) (w0 : World) (b : Nat) (x : Col) (r : List Int × Bool)
    (hp : Pre X w0 [.blk b 29 (Col.cells x)] []) (H : impl_Colouring_listOfCircular.f k x = some r) :
    Calls Try.prog 29 [.pointer (some ⟨b, 0, none⟩)].toArray w0 (Ret fun v w => ∃ (A_0 : Option Addr) (c_0 : Nat) (n_0 : Nat), v = .tuple [.slice A_0 n_0 c_0, .bool r.2].toArray ∧ Post X (fps [.blk b 29 (Col.cells x)]) w0 [.vec A_0 c_0 2 1 n_0 (ints r.1), .blk b 29 (Col.cells x)] [] w) := by
  unfold impl_Colouring_listOfCircular.f at H
  refine enterM (n := 42) hp Try.func29 rfl rfl (Nat.le_of_ble_eq_true rfl) fun a w ht hm => ?_
  refine wp_seq ?_
  refine wpr ?_
  refine wpl rfl rfl ht (ev_assign ht rfl rfl) ?_
  intro a ht
  refine wpl rfl rfl ht (ev_assign ht rfl rfl) ?_
  intro a ht
  refine wpList_nil ?_
  refine then_normal ?_
  refine wp_seq ?_
  refine wp_seq ?_
  refine wpr ?_
  refine wpl rfl rfl ht (ev_move ht rfl rfl) ?_
  intro a ht
  refine wpl rfl rfl ht (ev_nilCheck ht rfl rfl) ?_
  intro a ht
  refine wpl rfl rfl ht (ev_fieldAddr ht rfl rfl fo_29_0) ?_
  intro a ht
  refine wpl rfl rfl ht (ev_load ht rfl rfl sc_2 (hm.blk_cell 0 rfl rfl)) ?_
  intro a ht
  refine wpl rfl rfl ht (ev_cmp ht rfl rfl rfl rfl) ?_
  intro a ht
  refine wpList_nil ?_
  refine then_normal ?_
  by_cases h1 : x.p < 2
  · replace H := ite_yes h1 H
    refine wpc_yes ht rfl (decide_eq_true h1) ?_
    refine wp_seq ?_
    refine wpr ?_
    refine wpl rfl rfl ht (ev_assign ht rfl rfl) ?_
    intro a ht
    refine wpl rfl rfl ht (ev_assign ht rfl rfl) ?_
    intro a ht
    refine wpList_nil ?_
    refine then_normal ?_
    refine wp_ret ?_
    refine then_ret ?_
    have hres := ht.res (P := Try.prog) (w := w) (rs := [.tmp 2, .tmp 3]) (vs := [.slice none 0 0, .bool false]) (.tmp rfl (.tmp rfl .nil))
    replace hm : Ms _ _ _ (.vec none 0 2 1 0 (ints ([] : List Int)) :: _) _ w := hm.nilVec none 2 1
    obtain rfl := Option.some.inj H
    exact leave ht rfl hres ⟨none, 0, 0, rfl, ((hm.pick [0, 1] rfl (by decide)).pickφ [] rfl).post fun _ h => h⟩
  · replace H := ite_no h1 H
    refine wpc_no ht rfl (decide_eq_false h1) ?_
    refine wp_skip ?_
    refine then_normal ?_
    refine wp_seq ?_
    refine wpr ?_
    refine wpl_build_ints (l := ([] : List Int)) rfl rfl ht hm rfl und_24 zo_2 sz1_2 (by decide) rfl rfl rfl ?_
    intro A3 a ht w hm
    refine wpl rfl rfl ht (ev_assign ht rfl rfl) ?_
    intro a ht
    refine wpList_nil ?_
    refine then_normal ?_
    refine wp_seq ?_
    refine wp_seq ?_
    refine wpr ?_
    refine wpl rfl rfl ht (ev_assign ht rfl rfl) ?_
    intro a ht
    refine wpList_nil ?_
    refine then_normal ?_
    refine wp_block ?_
    refine wpLoop (fun q a w => ∃ (ls0_4 : List Int) (xs0_5 : Int) (As0_1 : Option Addr) (cs0_2 : Nat) (ms0_3 : Nat), impl_Colouring_listOfCircular.l0 q x ls0_4 xs0_5 = some r ∧ q ≤ k ∧ Tm 42 [(0, .pointer (some ⟨b, 0, none⟩)), (2, .slice none 0 0), (3, .bool false), (4, .slice As0_1 ms0_3 cs0_2), (5, .int .i64 xs0_5)] a ∧ Ms X (fps [.blk b 29 (Col.cells x)]) w0 [.vec As0_1 cs0_2 2 1 ms0_3 (ints ls0_4), .blk b 29 (Col.cells x)] [] w) (k0 := k) ⟨([] : List Int), 1, A3, 0, 0, H, Nat.le_refl _, ht.sub ⟨rfl, rfl, rfl, rfl, rfl, trivial⟩, (hm.pick [0, 1] rfl (by decide)).pickφ [] rfl⟩ ?_
    clear H ht hm
    intro q4 a w hJ
    obtain ⟨ls0_4, xs0_5, As0_1, cs0_2, ms0_3, H, hqq4, ht, hm⟩ := hJ
    cases q4 with
    | zero => cases H
    | succ q4 =>
    rw [impl_Colouring_listOfCircular.l0] at H
    refine wp_seq ?_
    refine wp_seq ?_
    refine wpr ?_
    refine wpl rfl rfl ht (ev_move ht rfl rfl) ?_
    intro a ht
    refine wpl rfl rfl ht (ev_move ht rfl rfl) ?_
    intro a ht
    refine wpl rfl rfl ht (ev_nilCheck ht rfl rfl) ?_
    intro a ht
    refine wpl rfl rfl ht (ev_fieldAddr ht rfl rfl fo_29_0) ?_
    intro a ht
    refine wpl rfl rfl ht (ev_load ht rfl rfl sc_2 (hm.blk_cell 1 rfl rfl)) ?_
    intro a ht
    refine wpl rfl rfl ht (ev_quo ht rfl rfl rfl (by decide)) ?_
    intro a ht
    refine wpl rfl rfl ht (ev_cmp ht rfl rfl rfl rfl) ?_
    intro a ht
    refine wpList_nil ?_
    refine then_normal ?_
    by_cases h5 : xs0_5 ≤ (w64 (Int.tdiv x.p 2))
    · replace H := ite_yes h5 H
      refine wpc_yes ht rfl (decide_eq_true h5) ?_
      refine wp_skip ?_
      refine then_normal ?_
      refine wp_seq ?_
      refine wp_block ?_
      refine wpr ?_
      refine wpl rfl rfl ht (ev_move ht rfl rfl) ?_
      intro a ht
      refine wpl rfl rfl ht (ev_move ht rfl rfl) ?_
      intro a ht
      refine wpl rfl rfl ht (ev_move ht rfl rfl) ?_
      intro a ht
      obtain ⟨t6, et6, H⟩ := bind_get H
      have hcall := impl_Colouring_at.calls _ _ b x 0 xs0_5 _ ((fun (hq : Ms _ _ _ ([.blk b 29 (Col.cells x)] ++ [.vec As0_1 cs0_2 2 1 ms0_3 (ints ls0_4)]) _ _) => hq.lend (φp := []) (allRO_nil)) (hm.pick (own' := [.blk b 29 (Col.cells x)] ++ [.vec As0_1 cs0_2 2 1 ms0_3 (ints ls0_4)]) [1, 0] rfl (by decide))) et6
      refine wpl_call _ rfl rfl ht rfl rfl rfl rfl can_41 hcall ?_
      clear hcall
      rintro _ w ⟨rfl, hpost⟩ a ht
      replace hm := (hm.pick (own' := [.blk b 29 (Col.cells x)] ++ [.vec As0_1 cs0_2 2 1 ms0_3 (ints ls0_4)]) [1, 0] rfl (by decide)).backL hpost
      clear hpost
      refine wpl_build_ints (l := [t6]) rfl rfl ht hm rfl und_24 zo_2 sz1_2 (by decide) rfl rfl rfl ?_
      intro A7 a ht w hm
      obtain ⟨l11, el11, H⟩ := bind_get H
      refine wpl_push (r := l11) 2 0 rfl rfl ht hm rfl ap_24 rfl rfl rfl rfl el11 ?_
      intro A8 c9 m10 a ht w hm
      refine wpl rfl rfl ht (ev_assign ht rfl rfl) ?_
      intro a ht
      refine wpList_nil ?_
      refine blk_normal ?_
      refine then_normal ?_
      refine wpr ?_
      refine wpl rfl rfl ht (ev_move ht rfl rfl) ?_
      intro a ht
      refine wpl rfl rfl ht (ev_arith ht rfl rfl rfl rfl) ?_
      intro a ht
      refine wpl rfl rfl ht (ev_assign ht rfl rfl) ?_
      intro a ht
      refine wpList_nil ?_
      exact then_normal ⟨q4, by omega, l11, (w64 (xs0_5 + 1)), A8, c9, m10, H, by omega, ht.sub ⟨rfl, rfl, rfl, rfl, rfl, trivial⟩, (hm.pick [2, 1] rfl (by decide)).pickφ [] rfl⟩
    · replace H := ite_no h5 H
      refine wpc_no ht rfl (decide_eq_false h5) ?_
      refine wp_exit ?_
      refine then_exit ?_
      refine then_exit ?_
      refine blk_hit ?_
      refine then_normal ?_
      refine wp_seq ?_
      refine wph_begin (fun w => Ms X (fps [.blk b 29 (Col.cells x)]) w0 [.vec As0_1 cs0_2 2 1 ms0_3 (ints ls0_4), .blk b 29 (Col.cells x)] [] w) mixed ?_
      replace hm := hm.drew
      have hS : Ms X (fps [.blk b 29 (Col.cells x)]) w0 [.vec As0_1 cs0_2 2 1 ms0_3 (ints ls0_4), .blk b 29 (Col.cells x)] [] w.drew := (hm.pick [0, 1] rfl (by decide)).pickφ [] rfl
      generalize w.drew = w at hm hS ⊢
      refine wph_take (i := 0) rfl (by kernel_rfl) (by kernel_rfl) (by kernel_rfl) (fun _ _ _ h => h) rfl ht hS (wanted_plain rfl) (fun w hm => ev_move ht rfl rfl) ?_
      intro a ht
      refine wph_take (i := 1) rfl (by kernel_rfl) (by kernel_rfl) (by kernel_rfl) (fun _ _ _ h => h) rfl ht hS (wanted_plain rfl) (fun w hm => ev_move ht rfl rfl) ?_
      intro a ht
      refine wph_take (i := 2) rfl (by kernel_rfl) (by kernel_rfl) (by kernel_rfl) (fun _ _ _ h => h) rfl ht hS (wanted_plain rfl) (fun w hm => ev_nilCheck ht rfl rfl) ?_
      intro a ht
      refine wph_take (i := 3) rfl (by kernel_rfl) (by kernel_rfl) (by kernel_rfl) (fun _ _ _ h => h) rfl ht hS (wanted_plain rfl) (fun w hm => ev_fieldAddr ht rfl rfl fo_29_0) ?_
      intro a ht
      refine wph_take (i := 4) rfl (by kernel_rfl) (by kernel_rfl) (by kernel_rfl) (fun _ _ _ h => h) rfl ht hS (wanted_plain rfl) (fun w hm => ev_load ht rfl rfl sc_2 (hm.blk_cell 1 rfl rfl)) ?_
      intro a ht
      refine wph_take (i := 5) rfl (by kernel_rfl) (by kernel_rfl) (by kernel_rfl) (fun _ _ _ h => h) rfl ht hS (wanted_plain rfl) (fun w hm => ev_move ht rfl rfl) ?_
      intro a ht
      refine wph_take (i := 6) rfl (by kernel_rfl) (by kernel_rfl) (by kernel_rfl) (fun _ _ _ h => h) rfl ht hS (wanted_plain rfl) (fun w hm => ev_nilCheck ht rfl rfl) ?_
      intro a ht
      refine wph_take (i := 7) rfl (by kernel_rfl) (by kernel_rfl) (by kernel_rfl) (fun _ _ _ h => h) rfl ht hS (wanted_plain rfl) (fun w hm => ev_fieldAddr ht rfl rfl fo_29_1) ?_
      intro a ht
      refine wph_take (i := 8) rfl (by kernel_rfl) (by kernel_rfl) (by kernel_rfl) (fun _ _ _ h => h) rfl ht hS (wanted_plain rfl) (fun w hm => ev_load ht rfl rfl sc_2 (hm.blk_cell 1 rfl rfl)) ?_
      intro a ht
      refine wph_take (i := 9) rfl (by kernel_rfl) (by kernel_rfl) (by kernel_rfl) (fun _ _ _ h => h) rfl ht hS (wanted_plain rfl) (fun w hm => ev_move ht rfl rfl) ?_
      intro a ht
      refine wph_take (i := 11) rfl (by kernel_rfl) (by kernel_rfl) (by kernel_rfl) (fun _ _ _ h => h) rfl ht hS (wanted_plain rfl) (fun w hm => ev_move ht rfl rfl) ?_
      intro a ht
      refine wph_take (i := 12) rfl (by kernel_rfl) (by kernel_rfl) (by kernel_rfl) (fun _ _ _ h => h) rfl ht hS (wanted_plain rfl) (fun w hm => ev_nilCheck ht rfl rfl) ?_
      intro a ht
      refine wph_take (i := 13) rfl (by kernel_rfl) (by kernel_rfl) (by kernel_rfl) (fun _ _ _ h => h) rfl ht hS (wanted_plain rfl) (fun w hm => ev_load_agg ht rfl rfl (ag_29.trans (by first | rw [Col.length_cells] | rfl)) (hm.blk_all 1 rfl)) ?_
      intro a ht
      refine wph_one (i := 10) (by kernel_rfl) (wph_step rfl ?_)
      obtain ⟨t12, et12, H⟩ := bind_get H
      have hcall := impl_circularOf.calls q4 _ _ As0_1 cs0_2 ms0_3 x.p x.k ls0_4 _ ((fun (hq : Ms _ _ _ ([] ++ [.vec As0_1 cs0_2 2 1 ms0_3 (ints ls0_4), .blk b 29 (Col.cells x)]) _ _) => hq.lend (φp := [IntsAt As0_1 cs0_2 ms0_3 ls0_4]) (allRO_cons (hq.lendVec 0 rfl) (allRO_nil))) (hm.pick (own' := [] ++ [.vec As0_1 cs0_2 2 1 ms0_3 (ints ls0_4), .blk b 29 (Col.cells x)]) [0, 1] rfl (by decide))) et12
      refine wpl_call _ rfl rfl ht rfl rfl rfl rfl can_33 hcall ?_
      clear hcall
      rintro _ w ⟨rfl, hpost⟩ a ht
      replace hm := (hm.pick (own' := [] ++ [.vec As0_1 cs0_2 2 1 ms0_3 (ints ls0_4), .blk b 29 (Col.cells x)]) [0, 1] rfl (by decide)).backL hpost
      clear hpost
      have hS : Ms X (fps [.blk b 29 (Col.cells x)]) w0 [.vec As0_1 cs0_2 2 1 ms0_3 (ints ls0_4), .blk b 29 (Col.cells x)] [] w := (hm.pick [0, 1] rfl (by decide)).pickφ [] rfl
      refine wpList_nil (qn ⟨hS, ?_⟩)
      refine wph_take (i := 14) rfl (by kernel_rfl) (by kernel_rfl) (by kernel_rfl) (fun _ _ _ h => h) rfl ht hS (wanted_plain rfl) (fun w hm => ev_eq_col ht rfl rfl rfl ct_29) ?_
      intro a ht
      refine wph_take (i := 15) rfl (by kernel_rfl) (by kernel_rfl) (by kernel_rfl) (fun _ _ _ h => h) rfl ht hS (wanted_plain rfl) (fun w hm => ev_assign ht rfl rfl) ?_
      intro a ht
      refine wph_take (i := 16) rfl (by kernel_rfl) (by kernel_rfl) (by kernel_rfl) (fun _ _ _ h => h) rfl ht hS (wanted_plain rfl) (fun w hm => ev_assign ht rfl rfl) ?_
      intro a ht
      refine wph_done (by kernel_rfl) ?_
      refine then_normal ?_
      refine wp_ret ?_
      have hres := ht.res (P := Try.prog) (w := w) (rs := [.tmp 2, .tmp 3]) (vs := [.slice As0_1 ms0_3 cs0_2, .bool (Col.same t12 x)]) (.tmp rfl (.tmp rfl .nil))
      obtain rfl := Option.some.inj H
      exact leave ht rfl hres ⟨As0_1, cs0_2, ms0_3, rfl, ((hm.pick [0, 1] rfl (by decide)).pickφ [] rfl).post fun _ h => h⟩

/-! ### impl_ListOfCircular: function 11 (loop.example/g01362/impl.ListOfCircular) -/
def impl_ListOfCircular.f (k : Nat) (x : Col) : Option (List Int × Int) := (impl_Colouring_code__always.f k x).bind fun t2 => if t2 ≠ 0 then (some (([] : List Int), t2)) else ((impl_Colouring_listOfCircular.f k x).bind fun t5 => if t5.2 = true then (some (t5.1, 0)) else (some (([] : List Int), 5)))
set_option maxRecDepth 100000 in
set_option maxHeartbeats 20000000 in
theorem impl_ListOfCircular.calls (k : Nat) (X : List Nat) (w0 : World)  (x : Col) (r : List Int × Int)
    (hp : Pre X w0 [] []) (H : impl_ListOfCircular.f k x = some r) :
    Calls Try.prog 11 [.agg (Col.cells x).toArray].toArray w0 (Ret fun v w => ∃ (A_0 : Option Addr) (c_0 : Nat) (n_0 : Nat), v = .tuple [.slice A_0 n_0 c_0, .int .i64 r.2].toArray ∧ Post X (fps []) w0 [.vec A_0 c_0 2 1 n_0 (ints r.1)] [] w) := by
  unfold impl_ListOfCircular.f at H
  refine enterM (n := 18) hp Try.func11 rfl rfl (Nat.le_of_ble_eq_true rfl) fun a w ht hm => ?_
  refine wp_seq ?_
  refine wpr ?_
  refine wpl_box rfl rfl ht hm rfl rfl rfl ?_
  intro b1 a ht w hm
  refine wpl rfl rfl ht (ev_assign ht rfl rfl) ?_
  intro a ht
  refine wpl rfl rfl ht (ev_assign ht rfl rfl) ?_
  intro a ht
  refine wpList_nil ?_
  refine then_normal ?_
  refine wp_seq ?_
  refine wp_seq ?_
  refine wpr ?_
  obtain ⟨t2, et2, H⟩ := bind_get H
  have hcall := impl_Colouring_code__always.calls k _ _ b1 x _ ((fun (hq : Ms _ _ _ ([.blk b1 29 (Col.cells x)] ++ []) _ _) => hq.lend (φp := []) (allRO_nil)) (hm.pick (own' := [.blk b1 29 (Col.cells x)] ++ []) [0] rfl (by decide))) et2
  refine wpl_call _ rfl rfl ht rfl rfl rfl rfl can_28 hcall ?_
  clear hcall
  rintro _ w ⟨rfl, hpost⟩ a ht
  replace hm := (hm.pick (own' := [.blk b1 29 (Col.cells x)] ++ []) [0] rfl (by decide)).backL hpost
  clear hpost
  refine wpl rfl rfl ht (ev_assign ht rfl rfl) ?_
  intro a ht
  refine wpList_nil ?_
  refine then_normal ?_
  refine wp_seq ?_
  refine wpr ?_
  refine wpl rfl rfl ht (ev_move ht rfl rfl) ?_
  intro a ht
  refine wpl rfl rfl ht (ev_cmp ht rfl rfl rfl rfl) ?_
  intro a ht
  refine wpList_nil ?_
  refine then_normal ?_
  by_cases h3 : t2 ≠ 0
  · replace H := ite_yes h3 H
    refine wpc_yes ht rfl (decide_eq_true h3) ?_
    refine wp_seq ?_
    refine wpr ?_
    refine wpl rfl rfl ht (ev_move ht rfl rfl) ?_
    intro a ht
    refine wpl rfl rfl ht (ev_assign ht rfl rfl) ?_
    intro a ht
    refine wpl rfl rfl ht (ev_assign ht rfl rfl) ?_
    intro a ht
    refine wpList_nil ?_
    refine then_normal ?_
    refine wp_ret ?_
    refine then_ret ?_
    have hres := ht.res (P := Try.prog) (w := w) (rs := [.tmp 2, .tmp 3]) (vs := [.slice none 0 0, .int .i64 t2]) (.tmp rfl (.tmp rfl .nil))
    replace hm : Ms _ _ _ (.vec none 0 2 1 0 (ints ([] : List Int)) :: _) _ w := hm.nilVec none 2 1
    obtain rfl := Option.some.inj H
    exact leave ht rfl hres ⟨none, 0, 0, rfl, ((hm.pick [0] rfl (by decide)).pickφ [] rfl).post fun _ h => h⟩
  · replace H := ite_no h3 H
    refine wpc_no ht rfl (decide_eq_false h3) ?_
    refine wp_skip ?_
    refine then_normal ?_
    refine wp_seq ?_
    refine wpr ?_
    obtain ⟨t5, et5, H⟩ := bind_get H
    have hcall := impl_Colouring_listOfCircular.calls k _ _ b1 x _ ((fun (hq : Ms _ _ _ ([.blk b1 29 (Col.cells x)] ++ []) _ _) => hq.lend (φp := []) (allRO_nil)) (hm.pick (own' := [.blk b1 29 (Col.cells x)] ++ []) [0] rfl (by decide))) et5
    refine wpl_call _ rfl rfl ht rfl rfl rfl rfl can_29 hcall ?_
    clear hcall
    rintro _ w ⟨A6, c7, m8, rfl, hpost⟩ a ht
    replace hm := (hm.pick (own' := [.blk b1 29 (Col.cells x)] ++ []) [0] rfl (by decide)).backL hpost
    clear hpost
    refine wpl rfl rfl ht (ev_move ht rfl rfl) ?_
    intro a ht
    refine wpl rfl rfl ht (ev_extract ht rfl rfl rfl) ?_
    intro a ht
    refine wpl rfl rfl ht (ev_extract ht rfl rfl rfl) ?_
    intro a ht
    refine wpl rfl rfl ht (ev_assign ht rfl rfl) ?_
    intro a ht
    refine wpl rfl rfl ht (ev_assign ht rfl rfl) ?_
    intro a ht
    refine wpList_nil ?_
    refine then_normal ?_
    refine wp_seq ?_
    refine wp_seq ?_
    refine wpr ?_
    refine wpl rfl rfl ht (ev_move ht rfl rfl) ?_
    intro a ht
    refine wpl rfl rfl ht (ev_not ht rfl rfl) ?_
    intro a ht
    refine wpList_nil ?_
    refine then_normal ?_
    by_cases h9 : t5.2 = true
    · replace H := ite_yes h9 H
      refine wpc_no ht rfl (not_t h9) ?_
      refine wp_skip ?_
      refine then_normal ?_
      refine wp_seq ?_
      refine wpr ?_
      refine wpl rfl rfl ht (ev_move ht rfl rfl) ?_
      intro a ht
      refine wpl rfl rfl ht (ev_assign ht rfl rfl) ?_
      intro a ht
      refine wpl rfl rfl ht (ev_assign ht rfl rfl) ?_
      intro a ht
      refine wpList_nil ?_
      refine then_normal ?_
      refine wp_ret ?_
      have hres := ht.res (P := Try.prog) (w := w) (rs := [.tmp 2, .tmp 3]) (vs := [.slice A6 m8 c7, .int .i64 0]) (.tmp rfl (.tmp rfl .nil))
      obtain rfl := Option.some.inj H
      exact leave ht rfl hres ⟨A6, c7, m8, rfl, ((hm.pick [0] rfl (by decide)).pickφ [] rfl).post fun _ h => h⟩
    · replace H := ite_no h9 H
      refine wpc_yes ht rfl (not_f (Bool.eq_false_iff.mpr h9)) ?_
      refine wp_seq ?_
      refine wpr ?_
      refine wpl rfl rfl ht (ev_assign ht rfl rfl) ?_
      intro a ht
      refine wpl rfl rfl ht (ev_assign ht rfl rfl) ?_
      intro a ht
      refine wpList_nil ?_
      refine then_normal ?_
      refine wp_ret ?_
      refine then_ret ?_
      have hres := ht.res (P := Try.prog) (w := w) (rs := [.tmp 2, .tmp 3]) (vs := [.slice none 0 0, .int .i64 5]) (.tmp rfl (.tmp rfl .nil))
      replace hm : Ms _ _ _ (.vec none 0 2 1 0 (ints ([] : List Int)) :: _) _ w := hm.nilVec none 2 1
      obtain rfl := Option.some.inj H
      exact leave ht rfl hres ⟨none, 0, 0, rfl, ((hm.pick [0] rfl (by decide)).pickφ [] rfl).post fun _ h => h⟩

/-! ### spec_DrawGreatestCircular: function 12 (loop.example/g01362/spec.DrawGreatestCircular) -/
def spec_DrawGreatestCircular.f (k : Nat) (code : List Int) : Option (List Int) := (spec_l01From.f k code).bind fun t1 => (spec_l03DrawSizes.f t1.1 t1.2.1 t1.2.2).bind fun t6 => some t6.1
set_option maxRecDepth 100000 in
set_option maxHeartbeats 20000000 in
theorem spec_DrawGreatestCircular.calls (k : Nat) (X : List Nat) (w0 : World) (A : Option Addr) (c : Nat) (m : Nat) (code : List Int) (r : List Int)
    (hp : Pre X w0 [] [Bytes8At A c m code]) (H : spec_DrawGreatestCircular.f k code = some r) :
    Calls Try.prog 12 [.slice A m c].toArray w0 (Ret fun v w => ∃ (A_0 : Option Addr) (c_0 : Nat) (n_0 : Nat), v = .slice A_0 n_0 c_0 ∧ Post X (fps []) w0 [.vec A_0 c_0 2 1 n_0 (ints r)] [] w) := by
  unfold spec_DrawGreatestCircular.f at H
  refine enterM (n := 6) hp Try.func12 rfl rfl (Nat.le_of_ble_eq_true rfl) fun a w ht hm => ?_
  refine wp_seq ?_
  refine wpr ?_
  refine wpl rfl rfl ht (ev_assign ht rfl rfl) ?_
  intro a ht
  refine wpList_nil ?_
  refine then_normal ?_
  refine wp_seq ?_
  refine wpr ?_
  refine wpl rfl rfl ht (ev_move ht rfl rfl) ?_
  intro a ht
  obtain ⟨t1, et1, H⟩ := bind_get H
  have hcall := spec_l01From.calls k _ _ A c m code _ ((hm.pick (own' := [] ++ []) [] rfl (by decide)).give (passed := []) (rest := []) (φp := [Bytes8At A c m code]) [0] rfl) et1
  refine wpl_call _ rfl rfl ht rfl rfl rfl rfl can_15 hcall ?_
  clear hcall
  rintro _ w ⟨b2, A3, c4, m5, rfl, hpost⟩ a ht
  replace hm := (hm.pick (own' := [] ++ []) [] rfl (by decide)).back hpost
  clear hpost
  obtain ⟨t6, et6, H⟩ := bind_get H
  have hcall := spec_l03DrawSizes.calls _ _ b2 A3 c4 m5 t1.1 t1.2.1 t1.2.2 _ ((hm.pick (own' := [.blk b2 58 [.slice A3 m5 c4, .int .i64 t1.2.1, .int .u64 t1.2.2]] ++ []) [0] rfl (by decide)).give (passed := [.blk b2 58 [.slice A3 m5 c4, .int .i64 t1.2.1, .int .u64 t1.2.2]]) (rest := []) (φp := [Bytes8At A3 c4 m5 t1.1]) [0] rfl) et6
  refine wpl_call _ rfl rfl ht rfl rfl rfl rfl can_17 hcall ?_
  clear hcall
  rintro _ w ⟨A7, c8, m9, A10, c11, m12, rfl, hpost⟩ a ht
  replace hm := (hm.pick (own' := [.blk b2 58 [.slice A3 m5 c4, .int .i64 t1.2.1, .int .u64 t1.2.2]] ++ []) [0] rfl (by decide)).back hpost
  clear hpost
  refine wpl rfl rfl ht (ev_assign ht rfl rfl) ?_
  intro a ht
  refine wpList_nil ?_
  refine then_normal ?_
  refine wp_ret ?_
  have hres := ht.res (P := Try.prog) (w := w) (rs := [.tmp 2]) (vs := [.slice A7 m9 c8]) (.tmp rfl .nil)
  obtain rfl := Option.some.inj H
  exact leave ht rfl hres ⟨A7, c8, m9, rfl, ((hm.pick [0] rfl (by decide)).pickφ [] rfl).post fun _ h => h⟩

/-! ### impl_GreatestCircular: function 13 (loop.example/g01362/impl.GreatestCircular) -/
def impl_GreatestCircular.l0 : Nat → List Int → Int → Option (Int × Int)
  | 0, _, _ => none
  | q3 + 1, sizes, xs0_1 => if xs0_1 ≥ 2 then ((impl_circulars.f q3 xs0_1 sizes).bind fun t5 => if (t5.length : Int) > 0 then (some (xs0_1, 0)) else (impl_GreatestCircular.l0 q3 sizes (w64 (xs0_1 - 1)))) else (some (0, 4))
def impl_GreatestCircular.f (k : Nat) (sizes : List Int) : Option (Int × Int) := (impl_areTwo.f k sizes).bind fun t1 => if t1 = true then (impl_GreatestCircular.l0 k sizes 13) else (some (0, 2))
set_option maxRecDepth 100000 in
set_option maxHeartbeats 20000000 in
theorem impl_GreatestCircular.calls (k : Nat) (X : List Nat) (w0 : World) (A : Option Addr) (c : Nat) (m : Nat) (sizes : List Int) (r : Int × Int)
    (hp : Pre X w0 [] [IntsAt A c m sizes]) (H : impl_GreatestCircular.f k sizes = some r) :
    Calls Try.prog 13 [.slice A m c].toArray w0 (Ret fun v w => v = .tuple [.int .i64 r.1, .int .i64 r.2].toArray ∧ Post X (fps []) w0 [] [] w) := by
  unfold impl_GreatestCircular.f at H
  refine enterM (n := 18) hp Try.func13 rfl rfl (Nat.le_of_ble_eq_true rfl) fun a w ht hm => ?_
  refine wp_seq ?_
  refine wpr ?_
  refine wpl rfl rfl ht (ev_assign ht rfl rfl) ?_
  intro a ht
  refine wpl rfl rfl ht (ev_assign ht rfl rfl) ?_
  intro a ht
  refine wpList_nil ?_
  refine then_normal ?_
  refine wp_seq ?_
  refine wp_seq ?_
  refine wpr ?_
  refine wpl rfl rfl ht (ev_move ht rfl rfl) ?_
  intro a ht
  obtain ⟨t1, et1, H⟩ := bind_get H
  have hcall := impl_areTwo.calls k _ _ A c m sizes _ ((fun (hq : Ms _ _ _ ([] ++ []) _ _) => hq.lend (φp := [IntsAt A c m sizes]) (allRO_cons (hq.lendFact 0 rfl) (allRO_nil))) (hm.pick (own' := [] ++ []) [] rfl (by decide))) et1
  refine wpl_call _ rfl rfl ht rfl rfl rfl rfl can_19 hcall ?_
  clear hcall
  rintro _ w ⟨rfl, hpost⟩ a ht
  replace hm := (hm.pick (own' := [] ++ []) [] rfl (by decide)).backL hpost
  clear hpost
  refine wpl rfl rfl ht (ev_not ht rfl rfl) ?_
  intro a ht
  refine wpList_nil ?_
  refine then_normal ?_
  by_cases h2 : t1 = true
  · replace H := ite_yes h2 H
    refine wpc_no ht rfl (not_t h2) ?_
    refine wp_skip ?_
    refine then_normal ?_
    refine wp_seq ?_
    refine wp_seq ?_
    refine wpr ?_
    refine wpl rfl rfl ht (ev_assign ht rfl rfl) ?_
    intro a ht
    refine wpList_nil ?_
    refine then_normal ?_
    refine wp_block ?_
    refine wpLoop (fun q a w => ∃ (xs0_1 : Int), impl_GreatestCircular.l0 q sizes xs0_1 = some r ∧ q ≤ k ∧ Tm 18 [(0, .slice A m c), (2, .int .i64 0), (3, .int .i64 0), (4, .int .i64 xs0_1)] a ∧ Ms X (fps []) w0 [] [IntsAt A c m sizes] w) (k0 := k) ⟨13, H, Nat.le_refl _, ht.sub ⟨rfl, rfl, rfl, rfl, trivial⟩, (hm.pick [] rfl (by decide)).pickφ [0] rfl⟩ ?_
    clear H ht hm
    intro q3 a w hJ
    obtain ⟨xs0_1, H, hqq3, ht, hm⟩ := hJ
    cases q3 with
    | zero => cases H
    | succ q3 =>
    rw [impl_GreatestCircular.l0] at H
    refine wp_seq ?_
    refine wp_seq ?_
    refine wpr ?_
    refine wpl rfl rfl ht (ev_move ht rfl rfl) ?_
    intro a ht
    refine wpl rfl rfl ht (ev_cmp ht rfl rfl rfl rfl) ?_
    intro a ht
    refine wpList_nil ?_
    refine then_normal ?_
    by_cases h4 : xs0_1 ≥ 2
    · replace H := ite_yes h4 H
      refine wpc_yes ht rfl (decide_eq_true h4) ?_
      refine wp_skip ?_
      refine then_normal ?_
      refine wp_seq ?_
      refine wp_block ?_
      refine wp_seq ?_
      refine wpr ?_
      refine wpl rfl rfl ht (ev_move ht rfl rfl) ?_
      intro a ht
      refine wpl rfl rfl ht (ev_move ht rfl rfl) ?_
      intro a ht
      obtain ⟨t5, et5, H⟩ := bind_get H
      have hcall := impl_circulars.calls q3 _ _ A c m xs0_1 sizes _ ((fun (hq : Ms _ _ _ ([] ++ []) _ _) => hq.lend (φp := [IntsAt A c m sizes]) (allRO_cons (hq.lendFact 0 rfl) (allRO_nil))) (hm.pick (own' := [] ++ []) [] rfl (by decide))) et5
      refine wpl_call _ rfl rfl ht rfl rfl rfl rfl can_20 hcall ?_
      clear hcall
      rintro _ w ⟨A6, c7, m8, rfl, hpost⟩ a ht
      replace hm := (hm.pick (own' := [] ++ []) [] rfl (by decide)).backL hpost
      clear hpost
      refine wpl rfl rfl ht (ev_len_cols ht rfl rfl und_46 (hm.vec_row 0 rfl)) ?_
      intro a ht
      refine wpl rfl rfl ht (ev_cmp ht rfl rfl rfl rfl) ?_
      intro a ht
      refine wpList_nil ?_
      refine then_normal ?_
      by_cases h9 : (t5.length : Int) > 0
      · replace H := ite_yes h9 H
        refine wpc_yes ht rfl (decide_eq_true h9) ?_
        refine wp_seq ?_
        refine wpr ?_
        refine wpl rfl rfl ht (ev_move ht rfl rfl) ?_
        intro a ht
        refine wpl rfl rfl ht (ev_assign ht rfl rfl) ?_
        intro a ht
        refine wpl rfl rfl ht (ev_assign ht rfl rfl) ?_
        intro a ht
        refine wpList_nil ?_
        refine then_normal ?_
        refine wp_ret ?_
        refine blk_ret ?_
        refine then_ret ?_
        refine then_ret ?_
        refine blk_ret ?_
        refine then_ret ?_
        have hres := ht.res (P := Try.prog) (w := w) (rs := [.tmp 2, .tmp 3]) (vs := [.int .i64 xs0_1, .int .i64 0]) (.tmp rfl (.tmp rfl .nil))
        obtain rfl := Option.some.inj H
        exact leave ht rfl hres ⟨rfl, ((hm.pick [] rfl (by decide)).pickφ [] rfl).post fun _ h => h⟩
      · replace H := ite_no h9 H
        refine wpc_no ht rfl (decide_eq_false h9) ?_
        refine wp_skip ?_
        refine blk_normal ?_
        refine then_normal ?_
        refine wpr ?_
        refine wpl rfl rfl ht (ev_move ht rfl rfl) ?_
        intro a ht
        refine wpl rfl rfl ht (ev_arith ht rfl rfl rfl rfl) ?_
        intro a ht
        refine wpl rfl rfl ht (ev_assign ht rfl rfl) ?_
        intro a ht
        refine wpList_nil ?_
        exact then_normal ⟨q3, by omega, (w64 (xs0_1 - 1)), H, by omega, ht.sub ⟨rfl, rfl, rfl, rfl, trivial⟩, (hm.pick [] rfl (by decide)).pickφ [0] rfl⟩
    · replace H := ite_no h4 H
      refine wpc_no ht rfl (decide_eq_false h4) ?_
      refine wp_exit ?_
      refine then_exit ?_
      refine then_exit ?_
      refine blk_hit ?_
      refine then_normal ?_
      refine wp_seq ?_
      refine wpr ?_
      refine wpl rfl rfl ht (ev_assign ht rfl rfl) ?_
      intro a ht
      refine wpl rfl rfl ht (ev_assign ht rfl rfl) ?_
      intro a ht
      refine wpList_nil ?_
      refine then_normal ?_
      refine wp_ret ?_
      have hres := ht.res (P := Try.prog) (w := w) (rs := [.tmp 2, .tmp 3]) (vs := [.int .i64 0, .int .i64 4]) (.tmp rfl (.tmp rfl .nil))
      obtain rfl := Option.some.inj H
      exact leave ht rfl hres ⟨rfl, ((hm.pick [] rfl (by decide)).pickφ [] rfl).post fun _ h => h⟩
  · replace H := ite_no h2 H
    refine wpc_yes ht rfl (not_f (Bool.eq_false_iff.mpr h2)) ?_
    refine wp_seq ?_
    refine wpr ?_
    refine wpl rfl rfl ht (ev_assign ht rfl rfl) ?_
    intro a ht
    refine wpl rfl rfl ht (ev_assign ht rfl rfl) ?_
    intro a ht
    refine wpList_nil ?_
    refine then_normal ?_
    refine wp_ret ?_
    refine then_ret ?_
    have hres := ht.res (P := Try.prog) (w := w) (rs := [.tmp 2, .tmp 3]) (vs := [.int .i64 0, .int .i64 2]) (.tmp rfl (.tmp rfl .nil))
    obtain rfl := Option.some.inj H
    exact leave ht rfl hres ⟨rfl, ((hm.pick [] rfl (by decide)).pickφ [] rfl).post fun _ h => h⟩

/-! ### spec_GreatestCircular: function 14 (loop.example/g01362/spec.GreatestCircular) -/
def spec_GreatestCircular.l0 : Nat → List Int → Int → Option (Int × Int)
  | 0, _, _ => none
  | q3 + 1, sizes, xs0_1 => if xs0_1 ≥ 2 then ((spec_l03Count.f q3 xs0_1 sizes).bind fun t5 => if t5.2 ≥ 0 then (some (xs0_1, 0)) else (spec_GreatestCircular.l0 q3 sizes (w64 (xs0_1 - 1)))) else (some (0, 4))
def spec_GreatestCircular.f (k : Nat) (sizes : List Int) : Option (Int × Int) := (spec_l03Code.f 2 sizes).bind fun t1 => if t1 ≠ 0 then (some (0, t1)) else (spec_GreatestCircular.l0 k sizes 13)
set_option maxRecDepth 100000 in
set_option maxHeartbeats 20000000 in
theorem spec_GreatestCircular.calls (k : Nat) (X : List Nat) (w0 : World) (A : Option Addr) (c : Nat) (m : Nat) (sizes : List Int) (r : Int × Int)
    (hp : Pre X w0 [] [IntsAt A c m sizes]) (H : spec_GreatestCircular.f k sizes = some r) :
    Calls Try.prog 14 [.slice A m c].toArray w0 (Ret fun v w => v = .tuple [.int .i64 r.1, .int .i64 r.2].toArray ∧ Post X (fps []) w0 [] [] w) := by
  unfold spec_GreatestCircular.f at H
  refine enterM (n := 26) hp Try.func14 rfl rfl (Nat.le_of_ble_eq_true rfl) fun a w ht hm => ?_
  refine wp_seq ?_
  refine wpr ?_
  refine wpl rfl rfl ht (ev_assign ht rfl rfl) ?_
  intro a ht
  refine wpl rfl rfl ht (ev_assign ht rfl rfl) ?_
  intro a ht
  refine wpList_nil ?_
  refine then_normal ?_
  refine wp_seq ?_
  refine wp_seq ?_
  refine wpr ?_
  refine wpl rfl rfl ht (ev_move ht rfl rfl) ?_
  intro a ht
  obtain ⟨t1, et1, H⟩ := bind_get H
  have hcall := spec_l03Code.calls _ _ A c m 2 sizes _ ((fun (hq : Ms _ _ _ ([] ++ []) _ _) => hq.lend (φp := [IntsAt A c m sizes]) (allRO_cons (hq.lendFact 0 rfl) (allRO_nil))) (hm.pick (own' := [] ++ []) [] rfl (by decide))) et1
  refine wpl_call _ rfl rfl ht rfl rfl rfl rfl can_21 hcall ?_
  clear hcall
  rintro _ w ⟨rfl, hpost⟩ a ht
  replace hm := (hm.pick (own' := [] ++ []) [] rfl (by decide)).backL hpost
  clear hpost
  refine wpl rfl rfl ht (ev_assign ht rfl rfl) ?_
  intro a ht
  refine wpList_nil ?_
  refine then_normal ?_
  refine wp_seq ?_
  refine wpr ?_
  refine wpl rfl rfl ht (ev_move ht rfl rfl) ?_
  intro a ht
  refine wpl rfl rfl ht (ev_cmp ht rfl rfl rfl rfl) ?_
  intro a ht
  refine wpList_nil ?_
  refine then_normal ?_
  by_cases h2 : t1 ≠ 0
  · replace H := ite_yes h2 H
    refine wpc_yes ht rfl (decide_eq_true h2) ?_
    refine wp_seq ?_
    refine wpr ?_
    refine wpl rfl rfl ht (ev_move ht rfl rfl) ?_
    intro a ht
    refine wpl rfl rfl ht (ev_assign ht rfl rfl) ?_
    intro a ht
    refine wpl rfl rfl ht (ev_assign ht rfl rfl) ?_
    intro a ht
    refine wpList_nil ?_
    refine then_normal ?_
    refine wp_ret ?_
    refine then_ret ?_
    have hres := ht.res (P := Try.prog) (w := w) (rs := [.tmp 2, .tmp 3]) (vs := [.int .i64 0, .int .i64 t1]) (.tmp rfl (.tmp rfl .nil))
    obtain rfl := Option.some.inj H
    exact leave ht rfl hres ⟨rfl, ((hm.pick [] rfl (by decide)).pickφ [] rfl).post fun _ h => h⟩
  · replace H := ite_no h2 H
    refine wpc_no ht rfl (decide_eq_false h2) ?_
    refine wp_skip ?_
    refine then_normal ?_
    refine wp_seq ?_
    refine wp_seq ?_
    refine wpr ?_
    refine wpl rfl rfl ht (ev_assign ht rfl rfl) ?_
    intro a ht
    refine wpList_nil ?_
    refine then_normal ?_
    refine wp_block ?_
    refine wpLoop (fun q a w => ∃ (xs0_1 : Int), spec_GreatestCircular.l0 q sizes xs0_1 = some r ∧ q ≤ k ∧ Tm 26 [(0, .slice A m c), (2, .int .i64 0), (3, .int .i64 0), (5, .int .i64 xs0_1)] a ∧ Ms X (fps []) w0 [] [IntsAt A c m sizes] w) (k0 := k) ⟨13, H, Nat.le_refl _, ht.sub ⟨rfl, rfl, rfl, rfl, trivial⟩, (hm.pick [] rfl (by decide)).pickφ [0] rfl⟩ ?_
    clear H ht hm
    intro q3 a w hJ
    obtain ⟨xs0_1, H, hqq3, ht, hm⟩ := hJ
    cases q3 with
    | zero => cases H
    | succ q3 =>
    rw [spec_GreatestCircular.l0] at H
    refine wp_seq ?_
    refine wp_seq ?_
    refine wpr ?_
    refine wpl rfl rfl ht (ev_move ht rfl rfl) ?_
    intro a ht
    refine wpl rfl rfl ht (ev_cmp ht rfl rfl rfl rfl) ?_
    intro a ht
    refine wpList_nil ?_
    refine then_normal ?_
    by_cases h4 : xs0_1 ≥ 2
    · replace H := ite_yes h4 H
      refine wpc_yes ht rfl (decide_eq_true h4) ?_
      refine wp_skip ?_
      refine then_normal ?_
      refine wp_seq ?_
      refine wp_block ?_
      refine wp_seq ?_
      refine wpr ?_
      refine wpl rfl rfl ht (ev_move ht rfl rfl) ?_
      intro a ht
      refine wpl rfl rfl ht (ev_move ht rfl rfl) ?_
      intro a ht
      obtain ⟨t5, et5, H⟩ := bind_get H
      have hcall := spec_l03Count.calls q3 _ _ A c m xs0_1 sizes _ ((fun (hq : Ms _ _ _ ([] ++ []) _ _) => hq.lend (φp := [IntsAt A c m sizes]) (allRO_cons (hq.lendFact 0 rfl) (allRO_nil))) (hm.pick (own' := [] ++ []) [] rfl (by decide))) et5
      refine wpl_call _ rfl rfl ht rfl rfl rfl rfl can_22 hcall ?_
      clear hcall
      rintro _ w ⟨rfl, hpost⟩ a ht
      replace hm := (hm.pick (own' := [] ++ []) [] rfl (by decide)).backL hpost
      clear hpost
      refine wpl rfl rfl ht (ev_move ht rfl rfl) ?_
      intro a ht
      refine wpl rfl rfl ht (ev_extract ht rfl rfl rfl) ?_
      intro a ht
      refine wpl rfl rfl ht (ev_extract ht rfl rfl rfl) ?_
      intro a ht
      refine wpl rfl rfl ht (ev_assign ht rfl rfl) ?_
      intro a ht
      refine wpl rfl rfl ht (ev_assign ht rfl rfl) ?_
      intro a ht
      refine wpList_nil ?_
      refine then_normal ?_
      refine wp_seq ?_
      refine wpr ?_
      refine wpl rfl rfl ht (ev_move ht rfl rfl) ?_
      intro a ht
      refine wpl rfl rfl ht (ev_cmp ht rfl rfl rfl rfl) ?_
      intro a ht
      refine wpList_nil ?_
      refine then_normal ?_
      by_cases h6 : t5.2 ≥ 0
      · replace H := ite_yes h6 H
        refine wpc_yes ht rfl (decide_eq_true h6) ?_
        refine wp_seq ?_
        refine wpr ?_
        refine wpl rfl rfl ht (ev_move ht rfl rfl) ?_
        intro a ht
        refine wpl rfl rfl ht (ev_assign ht rfl rfl) ?_
        intro a ht
        refine wpl rfl rfl ht (ev_assign ht rfl rfl) ?_
        intro a ht
        refine wpList_nil ?_
        refine then_normal ?_
        refine wp_ret ?_
        refine blk_ret ?_
        refine then_ret ?_
        refine then_ret ?_
        refine blk_ret ?_
        refine then_ret ?_
        have hres := ht.res (P := Try.prog) (w := w) (rs := [.tmp 2, .tmp 3]) (vs := [.int .i64 xs0_1, .int .i64 0]) (.tmp rfl (.tmp rfl .nil))
        obtain rfl := Option.some.inj H
        exact leave ht rfl hres ⟨rfl, ((hm.pick [] rfl (by decide)).pickφ [] rfl).post fun _ h => h⟩
      · replace H := ite_no h6 H
        refine wpc_no ht rfl (decide_eq_false h6) ?_
        refine wp_skip ?_
        refine blk_normal ?_
        refine then_normal ?_
        refine wpr ?_
        refine wpl rfl rfl ht (ev_move ht rfl rfl) ?_
        intro a ht
        refine wpl rfl rfl ht (ev_arith ht rfl rfl rfl rfl) ?_
        intro a ht
        refine wpl rfl rfl ht (ev_assign ht rfl rfl) ?_
        intro a ht
        refine wpList_nil ?_
        exact then_normal ⟨q3, by omega, (w64 (xs0_1 - 1)), H, by omega, ht.sub ⟨rfl, rfl, rfl, rfl, trivial⟩, (hm.pick [] rfl (by decide)).pickφ [0] rfl⟩
    · replace H := ite_no h4 H
      refine wpc_no ht rfl (decide_eq_false h4) ?_
      refine wp_exit ?_
      refine then_exit ?_
      refine then_exit ?_
      refine blk_hit ?_
      refine then_normal ?_
      refine wp_seq ?_
      refine wpr ?_
      refine wpl rfl rfl ht (ev_assign ht rfl rfl) ?_
      intro a ht
      refine wpl rfl rfl ht (ev_assign ht rfl rfl) ?_
      intro a ht
      refine wpList_nil ?_
      refine then_normal ?_
      refine wp_ret ?_
      have hres := ht.res (P := Try.prog) (w := w) (rs := [.tmp 2, .tmp 3]) (vs := [.int .i64 0, .int .i64 4]) (.tmp rfl (.tmp rfl .nil))
      obtain rfl := Option.some.inj H
      exact leave ht rfl hres ⟨rfl, ((hm.pick [] rfl (by decide)).pickφ [] rfl).post fun _ h => h⟩

end Go.Proofs.Ytkceneefhbdifaa.G
