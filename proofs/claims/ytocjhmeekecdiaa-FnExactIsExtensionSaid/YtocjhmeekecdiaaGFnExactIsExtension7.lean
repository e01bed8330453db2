/- What each Go function computes, as a Lean function, and the proof that it does: written by a program of this session (wip/gen), part 7. -/
import Derived.Test.YtocjhmeekecdiaaGFnExactIsExtension6
namespace Go.Proofs.Ytocjhmeekecdiaa.G
open Go Go.RowKit Go.Proofs.Ytocjhmeekecdiaa.K
set_option linter.unusedVariables false
set_option linter.unusedSimpArgs false

/-! ### impl_Colouring_put: function 68 ((*loop.example/g01362/impl.Colouring).put) -/
def impl_Colouring_put.f (x : Col) (i : Int) (j : Int) (c : Int) : Option (Col) := (impl_number.f i j).bind fun t1 => (getB 136 x.e t1).bind fun t2 => some (Col.setE x t1.toNat (w8 c))
set_option maxRecDepth 100000 in
set_option maxHeartbeats 1000000 in
theorem impl_Colouring_put.calls (X : List Nat) (w0 : World) (b : Nat) (x : Col) (i : Int) (j : Int) (c : Int) (r : Col)
    (hp : Pre X w0 [.blk b 28 (Col.cells x)] []) (H : impl_Colouring_put.f x i j c = some r) :
    Calls Try.prog 68 [.pointer (some ⟨b, 0, none⟩), .int .i64 i, .int .i64 j, .int .i64 c].toArray w0 (Ret fun v w => v = .tuple [].toArray ∧ Post X (fps [.blk b 28 (Col.cells x)]) w0 [.blk b 28 (Col.cells r)] [] w) := by
  unfold impl_Colouring_put.f at H
  refine enterM (n := 17) hp Try.func68 rfl rfl (Nat.le_of_ble_eq_true rfl) fun a w ht hm => ?_
  refine wph_begin (fun w => Ms X (fps [.blk b 28 (Col.cells x)]) w0 [] [] w) mixed ?_
  replace hm := hm.drew
  have hS : Ms X (fps [.blk b 28 (Col.cells x)]) w0 [] [] w.drew := (hm.pick [] rfl (by decide)).pickφ [] rfl
  generalize w.drew = w at hm hS ⊢
  refine wph_take (i := 0) rfl (by kernel_rfl) (by kernel_rfl) (by kernel_rfl) (fun _ _ _ h => h) rfl ht hS (wanted_plain rfl) (fun w hm => ev_move ht rfl rfl) ?_
  intro a ht
  refine wph_take (i := 1) rfl (by kernel_rfl) (by kernel_rfl) (by kernel_rfl) (fun _ _ _ h => h) rfl ht hS (wanted_plain rfl) (fun w hm => ev_move ht rfl rfl) ?_
  intro a ht
  refine wph_take (i := 2) rfl (by kernel_rfl) (by kernel_rfl) (by kernel_rfl) (fun _ _ _ h => h) rfl ht hS (wanted_plain rfl) (fun w hm => ev_move ht rfl rfl) ?_
  intro a ht
  refine wph_take (i := 4) rfl (by kernel_rfl) (by kernel_rfl) (by kernel_rfl) (fun _ _ _ h => h) rfl ht hS (wanted_plain rfl) (fun w hm => ev_move ht rfl rfl) ?_
  intro a ht
  refine wph_take (i := 5) rfl (by kernel_rfl) (by kernel_rfl) (by kernel_rfl) (fun _ _ _ h => h) rfl ht hS (wanted_plain rfl) (fun w hm => ev_convert ht rfl rfl und_2 und_5) ?_
  intro a ht
  refine wph_take (i := 6) rfl (by kernel_rfl) (by kernel_rfl) (by kernel_rfl) (fun _ _ _ h => h) rfl ht hS (wanted_plain rfl) (fun w hm => ev_nilCheck ht rfl rfl) ?_
  intro a ht
  refine wph_take (i := 7) rfl (by kernel_rfl) (by kernel_rfl) (by kernel_rfl) (fun _ _ _ h => h) rfl ht hS (wanted_plain rfl) (fun w hm => ev_fieldAddr ht rfl rfl fo_28_2) ?_
  intro a ht
  refine wph_one (i := 3) (by kernel_rfl) (wph_step rfl ?_)
  obtain ⟨t1, et1, H⟩ := bind_get H
  have hcall := impl_number.calls _ _ i j _ ((fun (hq : Ms _ _ _ ([] ++ [.blk b 28 (Col.cells x)]) _ _) => hq.lend (φp := []) (allRO_nil)) (hm.pick (own' := [] ++ [.blk b 28 (Col.cells x)]) [0] rfl (by decide))) et1
  refine wpl_call _ rfl rfl ht rfl rfl rfl rfl can_74 hcall ?_
  clear hcall
  rintro _ w ⟨rfl, hpost⟩ a ht
  replace hm := (hm.pick (own' := [] ++ [.blk b 28 (Col.cells x)]) [0] rfl (by decide)).backL hpost
  clear hpost
  have hS : Ms X (fps [.blk b 28 (Col.cells x)]) w0 [] [] w := (hm.pick [] rfl (by decide)).pickφ [] rfl
  refine wpList_nil (qn ⟨hS, ?_⟩)
  obtain ⟨t2, et2, H⟩ := bind_get H
  refine wph_take (i := 8) rfl (by kernel_rfl) (by kernel_rfl) (by kernel_rfl) (fun _ _ _ h => h) rfl ht hS (wanted_plain rfl) (fun w hm => ev_indexAddr_arr ht rfl rfl rfl ar_22 (getB_lo et2) (getB_hi et2)) ?_
  intro a ht
  refine wph_one (i := 9) (by kernel_rfl) (wph_step rfl ?_)
  refine wpl_store_colE 0 rfl rfl ht hm rfl rfl rfl sz1_5 rfl et2 ?_
  intro a ht w hm
  have hS : Ms X (fps [.blk b 28 (Col.cells x)]) w0 [] [] w := (hm.pick [] rfl (by decide)).pickφ [] rfl
  refine wpList_nil (qn ⟨hS, ?_⟩)
  refine wph_done (by kernel_rfl) ?_
  have hres := ht.res (P := Try.prog) (w := w) (rs := []) (vs := []) .nil
  obtain rfl := Option.some.inj H
  exact leave_end ht rfl hres ⟨rfl, ((hm.pick [0] rfl (by decide)).pickφ [] rfl).post fun _ h => h⟩

/-! ### impl_Colouring_grown: function 41 ((loop.example/g01362/impl.Colouring).grown) -/
def impl_Colouring_grown.l0 : Nat → Col → List Int → Col → Int → Option (Col)
  | 0, _, _, _, _ => none
  | q3 + 1, x, colours, xs0_1, xs0_2 => if xs0_2 < (colours.length : Int) then ((getI colours xs0_2).bind fun t5 => (impl_Colouring_put.f xs0_1 xs0_2 x.p t5).bind fun t6 => impl_Colouring_grown.l0 q3 x colours t6 (w64 (xs0_2 + 1))) else (some xs0_1)
def impl_Colouring_grown.f (k : Nat) (x : Col) (colours : List Int) : Option (Col) := impl_Colouring_grown.l0 k x colours (Col.setP x (w64 (x.p + 1))) 0
set_option maxRecDepth 100000 in
set_option maxHeartbeats 1000000 in
theorem impl_Colouring_grown.calls (k : Nat) (X : List Nat) (w0 : World) (A : Option Addr) (c : Nat) (m : Nat) (x : Col) (colours : List Int) (r : Col)
    (hp : Pre X w0 [] [IntsAt A c m colours]) (H : impl_Colouring_grown.f k x colours = some r) :
    Calls Try.prog 41 [.agg (Col.cells x).toArray, .slice A m c].toArray w0 (Ret fun v w => v = .agg (Col.cells r).toArray ∧ Post X (fps []) w0 [] [] w) := by
  unfold impl_Colouring_grown.f at H
  refine enterM (n := 27) hp Try.func41 rfl rfl (Nat.le_of_ble_eq_true rfl) fun a w ht hm => ?_
  refine wp_seq ?_
  refine wpr ?_
  refine wpl_box rfl rfl ht hm rfl rfl rfl ?_
  intro b1 a ht w hm
  refine wpl_alloc rfl rfl ht hm rfl zo_28 ?_
  intro b2 a ht w hm
  refine wpList_nil ?_
  refine then_normal ?_
  refine wp_seq ?_
  refine wpr ?_
  refine wpl rfl rfl ht (ev_fieldAddr ht rfl rfl fo_28_0) ?_
  intro a ht
  refine wpl rfl rfl ht (ev_load ht rfl rfl sc_2 (hm.blk_cell 1 rfl rfl)) ?_
  intro a ht
  refine wpl rfl rfl ht (ev_assign ht rfl rfl) ?_
  intro a ht
  refine wpList_nil ?_
  refine then_normal ?_
  refine wp_seq ?_
  refine wpr ?_
  refine wpl rfl rfl ht (ev_fieldAddr ht rfl rfl fo_28_0) ?_
  intro a ht
  refine wpl rfl rfl ht (ev_load ht rfl rfl sc_2 (hm.blk_cell 1 rfl rfl)) ?_
  intro a ht
  refine wpl rfl rfl ht (ev_arith ht rfl rfl rfl rfl) ?_
  intro a ht
  refine wpl rfl rfl ht (ev_fieldAddr ht rfl rfl fo_28_0) ?_
  intro a ht
  refine wpl_store_blk 1 rfl rfl ht hm rfl rfl rfl sz1_2 rfl rfl rfl ?_
  intro a ht w hm
  refine wpList_nil ?_
  refine then_normal ?_
  refine wp_seq ?_
  refine wp_seq ?_
  refine wpr ?_
  refine wpl rfl rfl ht (ev_move ht rfl rfl) ?_
  intro a ht
  refine wpl rfl rfl ht (ev_len_of ht rfl rfl und_25 (hm.fact (φ := IntsAt A c m colours) 0 rfl)) ?_
  intro a ht
  refine wpl rfl rfl ht (ev_move ht rfl rfl) ?_
  intro a ht
  refine wpList_nil ?_
  refine then_normal ?_
  refine wp_block ?_
  refine wpLoop (fun q a w => ∃ (xs0_1 : Col) (xs0_2 : Int), impl_Colouring_grown.l0 q x colours xs0_1 xs0_2 = some r ∧ q ≤ k ∧ Tm 27 [(2, .pointer (some ⟨b1, 0, none⟩)), (4, .pointer (some ⟨b2, 0, none⟩)), (5, .int .i64 x.p), (14, .slice A m c), (15, .int .i64 (colours.length : Int)), (16, .int .i64 xs0_2)] a ∧ Ms X (fps []) w0 [.blk b2 28 (Col.cells Col.zero), .blk b1 28 (Col.cells xs0_1)] [IntsAt A c m colours] w) (k0 := k) ⟨(Col.setP x (w64 (x.p + 1))), 0, H, Nat.le_refl _, ht.sub ⟨rfl, rfl, rfl, rfl, rfl, rfl, trivial⟩, (hm.pick [0, 1] rfl (by decide)).pickφ [0] rfl⟩ ?_
  clear H ht hm
  intro q3 a w hJ
  obtain ⟨xs0_1, xs0_2, H, hqq3, ht, hm⟩ := hJ
  cases q3 with
  | zero => cases H
  | succ q3 =>
  rw [impl_Colouring_grown.l0] at H
  refine wp_seq ?_
  refine wpr ?_
  refine wpl rfl rfl ht (ev_cmp ht rfl rfl rfl rfl) ?_
  intro a ht
  refine wpList_nil ?_
  refine then_normal ?_
  refine wp_seq ?_
  by_cases h4 : xs0_2 < (colours.length : Int)
  · replace H := ite_yes h4 H
    refine wpc_yes ht rfl (decide_eq_true h4) ?_
    refine wp_skip ?_
    refine then_normal ?_
    refine wp_seq ?_
    refine wp_block ?_
    refine wp_seq ?_
    refine wpr ?_
    refine wpl rfl rfl ht (ev_move ht rfl rfl) ?_
    intro a ht
    obtain ⟨t5, et5, H⟩ := bind_get H
    refine wpl rfl rfl ht (ev_index_ints ht rfl rfl rfl so_25 (hm.fact (φ := IntsAt A c m colours) 0 rfl) et5) ?_
    intro a ht
    refine wpl rfl rfl ht (ev_load ht rfl rfl sc_2 (RowAt.cell (hm.fact (φ := IntsAt A c m colours) 0 rfl) (ints_get et5) rfl)) ?_
    intro a ht
    refine wpl rfl rfl ht (ev_assign ht rfl rfl) ?_
    intro a ht
    refine wpl rfl rfl ht (ev_assign ht rfl rfl) ?_
    intro a ht
    refine wpList_nil ?_
    refine then_normal ?_
    refine wpr ?_
    refine wpl rfl rfl ht (ev_move ht rfl rfl) ?_
    intro a ht
    refine wpl rfl rfl ht (ev_move ht rfl rfl) ?_
    intro a ht
    refine wpl rfl rfl ht (ev_move ht rfl rfl) ?_
    intro a ht
    obtain ⟨t6, et6, H⟩ := bind_get H
    have hcall := impl_Colouring_put.calls _ _ b1 xs0_1 xs0_2 x.p t5 _ ((fun (hq : Ms _ _ _ ([.blk b1 28 (Col.cells xs0_1)] ++ [.blk b2 28 (Col.cells Col.zero)]) _ _) => hq.lend (φp := []) (allRO_nil)) (hm.pick (own' := [.blk b1 28 (Col.cells xs0_1)] ++ [.blk b2 28 (Col.cells Col.zero)]) [1, 0] rfl (by decide))) et6
    refine wpl_call _ rfl rfl ht rfl rfl rfl rfl can_68 hcall ?_
    clear hcall
    rintro _ w ⟨rfl, hpost⟩ a ht
    replace hm := (hm.pick (own' := [.blk b1 28 (Col.cells xs0_1)] ++ [.blk b2 28 (Col.cells Col.zero)]) [1, 0] rfl (by decide)).backL hpost
    clear hpost
    refine wpList_nil ?_
    refine blk_normal ?_
    refine then_normal ?_
    refine wpr ?_
    refine wpl rfl rfl ht (ev_arith ht rfl rfl rfl rfl) ?_
    intro a ht
    refine wpl rfl rfl ht (ev_move ht rfl rfl) ?_
    intro a ht
    refine wpList_nil ?_
    exact then_normal ⟨q3, by omega, t6, (w64 (xs0_2 + 1)), H, by omega, ht.sub ⟨rfl, rfl, rfl, rfl, rfl, rfl, trivial⟩, (hm.pick [1, 0] rfl (by decide)).pickφ [0] rfl⟩
  · replace H := ite_no h4 H
    refine wpc_no ht rfl (decide_eq_false h4) ?_
    refine wp_exit ?_
    refine then_exit ?_
    refine then_exit ?_
    refine blk_hit ?_
    refine then_normal ?_
    refine wp_seq ?_
    refine wpr ?_
    refine wpl rfl rfl ht (ev_load_agg ht rfl rfl (ag_28.trans (by first | rw [Col.length_cells] | rfl)) (hm.blk_all 1 rfl)) ?_
    intro a ht
    refine wpl_store_whole 0 rfl rfl ht hm rfl rfl rfl (szn_28.trans (by first | rw [Col.length_cells] | rfl)) rfl (by simp only [Col.length_cells]) (Col.cells_one _) ?_
    intro a ht w hm
    refine wpList_nil ?_
    refine then_normal ?_
    refine wp_ret ?_
    have hres := ht.res (P := Try.prog) (w := w) (rs := [.cell 4 28]) (vs := [.agg (Col.cells xs0_1).toArray]) (.agg rfl (ag_28.trans (by first | rw [Col.length_cells] | rfl)) (hm.blk_all 0 rfl) .nil)
    obtain rfl := Option.some.inj H
    exact leave ht rfl hres ⟨rfl, ((hm.pick [] rfl (by decide)).pickφ [] rfl).post fun _ h => h⟩

/-! ### impl_IsExtension: function 17 (loop.example/g01362/impl.IsExtension) -/
def impl_IsExtension.f (k : Nat) (x : Col) (sizes : List Int) (colours : List Int) : Option (Bool × Int) := (impl_Colouring_extendingCode__IsExtension_1.f k x sizes colours 16).bind fun t3 => if t3 ≠ 0 then (some (false, t3)) else ((impl_Colouring_grown.f k x colours).bind fun t5 => (impl_Colouring_avoids.f k t5 sizes).bind fun t7 => some (t7, 0))
set_option maxRecDepth 100000 in
set_option maxHeartbeats 1000000 in
theorem impl_IsExtension.calls (k : Nat) (X : List Nat) (w0 : World) (A : Option Addr) (c : Nat) (m : Nat) (A2 : Option Addr) (c2 : Nat) (m2 : Nat) (x : Col) (sizes : List Int) (colours : List Int) (r : Bool × Int)
    (hp : Pre X w0 [] [IntsAt A c m sizes, IntsAt A2 c2 m2 colours]) (H : impl_IsExtension.f k x sizes colours = some r) :
    Calls Try.prog 17 [.agg (Col.cells x).toArray, .slice A m c, .slice A2 m2 c2].toArray w0 (Ret fun v w => v = .tuple [.bool r.1, .int .i64 r.2].toArray ∧ Post X (fps []) w0 [] [] w) := by
  unfold impl_IsExtension.f at H
  refine enterM (n := 21) hp Try.func17 rfl rfl (Nat.le_of_ble_eq_true rfl) fun a w ht hm => ?_
  refine wp_seq ?_
  refine wpr ?_
  refine wpl_box rfl rfl ht hm rfl rfl rfl ?_
  intro b1 a ht w hm
  refine wpl_box rfl rfl ht hm rfl rfl rfl ?_
  intro b2 a ht w hm
  refine wpl rfl rfl ht (ev_assign ht rfl rfl) ?_
  intro a ht
  refine wpl rfl rfl ht (ev_assign ht rfl rfl) ?_
  intro a ht
  refine wpList_nil ?_
  refine then_normal ?_
  refine wp_seq ?_
  refine wp_seq ?_
  refine wpr ?_
  refine wpl rfl rfl ht (ev_move ht rfl rfl) ?_
  intro a ht
  refine wpl rfl rfl ht (ev_makeFunc ht rfl rfl rfl) ?_
  intro a ht
  obtain ⟨t3, et3, H⟩ := bind_get H
  have hcall := impl_Colouring_extendingCode__IsExtension_1.calls k _ _ b1 A c m b2 A2 c2 m2 x sizes colours 16 _ ((fun (hq : Ms _ _ _ ([.blk b1 28 (Col.cells x), .blk b2 25 [.slice A2 m2 c2]] ++ []) _ _) => hq.lend (φp := [IntsAt A c m sizes, IntsAt A2 c2 m2 colours]) (allRO_cons (hq.lendFact 0 rfl) (allRO_cons (hq.lendFact 1 rfl) (allRO_nil)))) (hm.pick (own' := [.blk b1 28 (Col.cells x), .blk b2 25 [.slice A2 m2 c2]] ++ []) [1, 0] rfl (by decide))) et3
  refine wpl_call _ rfl rfl ht rfl rfl rfl rfl can_32 hcall ?_
  clear hcall
  rintro _ w ⟨rfl, hpost⟩ a ht
  replace hm := (hm.pick (own' := [.blk b1 28 (Col.cells x), .blk b2 25 [.slice A2 m2 c2]] ++ []) [1, 0] rfl (by decide)).backL hpost
  clear hpost
  refine wpl rfl rfl ht (ev_assign ht rfl rfl) ?_
  intro a ht
  refine wpList_nil ?_
  refine then_normal ?_
  refine wp_seq ?_
  refine wpr ?_
  refine wpl rfl rfl ht (ev_move ht rfl rfl) ?_
  intro a ht
  refine wpl rfl rfl ht (ev_cmp ht rfl rfl rfl rfl) ?_
  intro a ht
  refine wpList_nil ?_
  refine then_normal ?_
  by_cases h4 : t3 ≠ 0
  · replace H := ite_yes h4 H
    refine wpc_yes ht rfl (decide_eq_true h4) ?_
    refine wp_seq ?_
    refine wpr ?_
    refine wpl rfl rfl ht (ev_move ht rfl rfl) ?_
    intro a ht
    refine wpl rfl rfl ht (ev_assign ht rfl rfl) ?_
    intro a ht
    refine wpl rfl rfl ht (ev_assign ht rfl rfl) ?_
    intro a ht
    refine wpList_nil ?_
    refine then_normal ?_
    refine wp_ret ?_
    refine then_ret ?_
    have hres := ht.res (P := Try.prog) (w := w) (rs := [.tmp 6, .tmp 7]) (vs := [.bool false, .int .i64 t3]) (.tmp rfl (.tmp rfl .nil))
    obtain rfl := Option.some.inj H
    exact leave ht rfl hres ⟨rfl, ((hm.pick [] rfl (by decide)).pickφ [] rfl).post fun _ h => h⟩
  · replace H := ite_no h4 H
    refine wpc_no ht rfl (decide_eq_false h4) ?_
    refine wp_skip ?_
    refine then_normal ?_
    refine wp_seq ?_
    refine wpr ?_
    refine wpl rfl rfl ht (ev_load_agg ht rfl rfl (ag_28.trans (by first | rw [Col.length_cells] | rfl)) (hm.blk_all 0 rfl)) ?_
    intro a ht
    refine wpl rfl rfl ht (ev_load ht rfl rfl sc_25 (hm.blk_cell 1 rfl rfl)) ?_
    intro a ht
    obtain ⟨t5, et5, H⟩ := bind_get H
    have hcall := impl_Colouring_grown.calls k _ _ A2 c2 m2 x colours _ ((fun (hq : Ms _ _ _ ([] ++ [.blk b1 28 (Col.cells x), .blk b2 25 [.slice A2 m2 c2]]) _ _) => hq.lend (φp := [IntsAt A2 c2 m2 colours]) (allRO_cons (hq.lendFact 1 rfl) (allRO_nil))) (hm.pick (own' := [] ++ [.blk b1 28 (Col.cells x), .blk b2 25 [.slice A2 m2 c2]]) [0, 1] rfl (by decide))) et5
    refine wpl_call _ rfl rfl ht rfl rfl rfl rfl can_41 hcall ?_
    clear hcall
    rintro _ w ⟨rfl, hpost⟩ a ht
    replace hm := (hm.pick (own' := [] ++ [.blk b1 28 (Col.cells x), .blk b2 25 [.slice A2 m2 c2]]) [0, 1] rfl (by decide)).backL hpost
    clear hpost
    refine wpl_alloc rfl rfl ht hm rfl zo_28 ?_
    intro b6 a ht w hm
    refine wpl_store_whole 0 rfl rfl ht hm rfl rfl rfl (szn_28.trans (by first | rw [Col.length_cells] | rfl)) rfl (by simp only [Col.length_cells]) (Col.cells_one _) ?_
    intro a ht w hm
    refine wpList_nil ?_
    refine then_normal ?_
    refine wp_seq ?_
    refine wpr ?_
    refine wpl rfl rfl ht (ev_move ht rfl rfl) ?_
    intro a ht
    obtain ⟨t7, et7, H⟩ := bind_get H
    have hcall := impl_Colouring_avoids.calls k _ _ b6 A c m t5 sizes _ ((fun (hq : Ms _ _ _ ([.blk b6 28 (Col.cells t5)] ++ [.blk b1 28 (Col.cells x), .blk b2 25 [.slice A2 m2 c2]]) _ _) => hq.lend (φp := [IntsAt A c m sizes]) (allRO_cons (hq.lendFact 0 rfl) (allRO_nil))) (hm.pick (own' := [.blk b6 28 (Col.cells t5)] ++ [.blk b1 28 (Col.cells x), .blk b2 25 [.slice A2 m2 c2]]) [0, 1, 2] rfl (by decide))) et7
    refine wpl_call _ rfl rfl ht rfl rfl rfl rfl can_42 hcall ?_
    clear hcall
    rintro _ w ⟨rfl, hpost⟩ a ht
    replace hm := (hm.pick (own' := [.blk b6 28 (Col.cells t5)] ++ [.blk b1 28 (Col.cells x), .blk b2 25 [.slice A2 m2 c2]]) [0, 1, 2] rfl (by decide)).backL hpost
    clear hpost
    refine wpl rfl rfl ht (ev_assign ht rfl rfl) ?_
    intro a ht
    refine wpl rfl rfl ht (ev_assign ht rfl rfl) ?_
    intro a ht
    refine wpList_nil ?_
    refine then_normal ?_
    refine wp_ret ?_
    have hres := ht.res (P := Try.prog) (w := w) (rs := [.tmp 6, .tmp 7]) (vs := [.bool t7, .int .i64 0]) (.tmp rfl (.tmp rfl .nil))
    obtain rfl := Option.some.inj H
    exact leave ht rfl hres ⟨rfl, ((hm.pick [] rfl (by decide)).pickφ [] rfl).post fun _ h => h⟩

/-! ### laws_eqInt64S: function 13 (loop.example/g01362/laws.eqInt64S) -/
def laws_eqInt64S.l0 : Nat → List Int → List Int → Int → Option (Bool)
  | 0, _, _, _ => none
  | q2 + 1, a_, b, xs0_1 => if xs0_1 < (a_.length : Int) then ((getI a_ xs0_1).bind fun t4 => (getI b xs0_1).bind fun t5 => if t4 ≠ t5 then (some false) else (laws_eqInt64S.l0 q2 a_ b (w64 (xs0_1 + 1)))) else (some true)
def laws_eqInt64S.f (k : Nat) (a_ : List Int) (b : List Int) : Option (Bool) := if (a_.length : Int) ≠ (b.length : Int) then (some false) else (laws_eqInt64S.l0 k a_ b 0)
set_option maxRecDepth 100000 in
set_option maxHeartbeats 1000000 in
theorem laws_eqInt64S.calls (k : Nat) (X : List Nat) (w0 : World) (A : Option Addr) (c : Nat) (m : Nat) (A2 : Option Addr) (c2 : Nat) (m2 : Nat) (a_ : List Int) (b : List Int) (r : Bool)
    (hp : Pre X w0 [] [IntsAt A c m a_, IntsAt A2 c2 m2 b]) (H : laws_eqInt64S.f k a_ b = some r) :
    Calls Try.prog 13 [.slice A m c, .slice A2 m2 c2].toArray w0 (Ret fun v w => v = .bool r ∧ Post X (fps []) w0 [] [] w) := by
  unfold laws_eqInt64S.f at H
  refine enterM (n := 26) hp Try.func13 rfl rfl (Nat.le_of_ble_eq_true rfl) fun a w ht hm => ?_
  refine wp_seq ?_
  refine wpr ?_
  refine wpl rfl rfl ht (ev_assign ht rfl rfl) ?_
  intro a ht
  refine wpList_nil ?_
  refine then_normal ?_
  refine wp_seq ?_
  refine wp_seq ?_
  refine wpr ?_
  refine wpl rfl rfl ht (ev_move ht rfl rfl) ?_
  intro a ht
  refine wpl rfl rfl ht (ev_len_of ht rfl rfl und_25 (hm.fact (φ := IntsAt A c m a_) 0 rfl)) ?_
  intro a ht
  refine wpl rfl rfl ht (ev_move ht rfl rfl) ?_
  intro a ht
  refine wpl rfl rfl ht (ev_len_of ht rfl rfl und_25 (hm.fact (φ := IntsAt A2 c2 m2 b) 1 rfl)) ?_
  intro a ht
  refine wpl rfl rfl ht (ev_cmp ht rfl rfl rfl rfl) ?_
  intro a ht
  refine wpList_nil ?_
  refine then_normal ?_
  by_cases h1 : (a_.length : Int) ≠ (b.length : Int)
  · replace H := ite_yes h1 H
    refine wpc_yes ht rfl (decide_eq_true h1) ?_
    refine wp_seq ?_
    refine wpr ?_
    refine wpl rfl rfl ht (ev_assign ht rfl rfl) ?_
    intro a ht
    refine wpList_nil ?_
    refine then_normal ?_
    refine wp_ret ?_
    refine then_ret ?_
    have hres := ht.res (P := Try.prog) (w := w) (rs := [.tmp 4]) (vs := [.bool false]) (.tmp rfl .nil)
    obtain rfl := Option.some.inj H
    exact leave ht rfl hres ⟨rfl, ((hm.pick [] rfl (by decide)).pickφ [] rfl).post fun _ h => h⟩
  · replace H := ite_no h1 H
    refine wpc_no ht rfl (decide_eq_false h1) ?_
    refine wp_skip ?_
    refine then_normal ?_
    refine wp_seq ?_
    refine wp_seq ?_
    refine wpr ?_
    refine wpl rfl rfl ht (ev_assign ht rfl rfl) ?_
    intro a ht
    refine wpList_nil ?_
    refine then_normal ?_
    refine wp_block ?_
    refine wpLoop (fun q a w => ∃ (xs0_1 : Int), laws_eqInt64S.l0 q a_ b xs0_1 = some r ∧ q ≤ k ∧ Tm 26 [(0, .slice A m c), (1, .slice A2 m2 c2), (4, .bool false), (5, .int .i64 xs0_1)] a ∧ Ms X (fps []) w0 [] [IntsAt A c m a_, IntsAt A2 c2 m2 b] w) (k0 := k) ⟨0, H, Nat.le_refl _, ht.sub ⟨rfl, rfl, rfl, rfl, trivial⟩, (hm.pick [] rfl (by decide)).pickφ [0, 1] rfl⟩ ?_
    clear H ht hm
    intro q2 a w hJ
    obtain ⟨xs0_1, H, hqq2, ht, hm⟩ := hJ
    cases q2 with
    | zero => cases H
    | succ q2 =>
    rw [laws_eqInt64S.l0] at H
    refine wp_seq ?_
    refine wp_seq ?_
    refine wpr ?_
    refine wpl rfl rfl ht (ev_move ht rfl rfl) ?_
    intro a ht
    refine wpl rfl rfl ht (ev_move ht rfl rfl) ?_
    intro a ht
    refine wpl rfl rfl ht (ev_len_of ht rfl rfl und_25 (hm.fact (φ := IntsAt A c m a_) 0 rfl)) ?_
    intro a ht
    refine wpl rfl rfl ht (ev_cmp ht rfl rfl rfl rfl) ?_
    intro a ht
    refine wpList_nil ?_
    refine then_normal ?_
    by_cases h3 : xs0_1 < (a_.length : Int)
    · replace H := ite_yes h3 H
      refine wpc_yes ht rfl (decide_eq_true h3) ?_
      refine wp_skip ?_
      refine then_normal ?_
      refine wp_seq ?_
      refine wp_block ?_
      refine wp_seq ?_
      refine wph_begin (fun w => Ms X (fps []) w0 [] [IntsAt A c m a_, IntsAt A2 c2 m2 b] w) mixed ?_
      replace hm := hm.drew
      have hS : Ms X (fps []) w0 [] [IntsAt A c m a_, IntsAt A2 c2 m2 b] w.drew := (hm.pick [] rfl (by decide)).pickφ [0, 1] rfl
      generalize w.drew = w at hm hS ⊢
      refine wph_take (i := 0) rfl (by kernel_rfl) (by kernel_rfl) (by kernel_rfl) (fun _ _ _ h => h) rfl ht hS (wanted_plain rfl) (fun w hm => ev_move ht rfl rfl) ?_
      intro a ht
      refine wph_take (i := 1) rfl (by kernel_rfl) (by kernel_rfl) (by kernel_rfl) (fun _ _ _ h => h) rfl ht hS (wanted_plain rfl) (fun w hm => ev_move ht rfl rfl) ?_
      intro a ht
      obtain ⟨t4, et4, H⟩ := bind_get H
      refine wph_take (i := 2) rfl (by kernel_rfl) (by kernel_rfl) (by kernel_rfl) (fun _ _ _ h => h) rfl ht hS (wanted_plain rfl) (fun w hm => ev_index_ints ht rfl rfl rfl so_25 (hm.fact (φ := IntsAt A c m a_) 0 rfl) et4) ?_
      intro a ht
      refine wph_take (i := 3) rfl (by kernel_rfl) (by kernel_rfl) (by kernel_rfl) (fun _ _ _ h => h) rfl ht hS (wanted_plain rfl) (fun w hm => ev_load ht rfl rfl sc_2 (RowAt.cell (hm.fact (φ := IntsAt A c m a_) 0 rfl) (ints_get et4) rfl)) ?_
      intro a ht
      refine wph_take (i := 4) rfl (by kernel_rfl) (by kernel_rfl) (by kernel_rfl) (fun _ _ _ h => h) rfl ht hS (wanted_plain rfl) (fun w hm => ev_move ht rfl rfl) ?_
      intro a ht
      refine wph_take (i := 5) rfl (by kernel_rfl) (by kernel_rfl) (by kernel_rfl) (fun _ _ _ h => h) rfl ht hS (wanted_plain rfl) (fun w hm => ev_move ht rfl rfl) ?_
      intro a ht
      obtain ⟨t5, et5, H⟩ := bind_get H
      refine wph_take (i := 6) rfl (by kernel_rfl) (by kernel_rfl) (by kernel_rfl) (fun _ _ _ h => h) rfl ht hS (wanted_plain rfl) (fun w hm => ev_index_ints ht rfl rfl rfl so_25 (hm.fact (φ := IntsAt A2 c2 m2 b) 1 rfl) et5) ?_
      intro a ht
      refine wph_take (i := 7) rfl (by kernel_rfl) (by kernel_rfl) (by kernel_rfl) (fun _ _ _ h => h) rfl ht hS (wanted_plain rfl) (fun w hm => ev_load ht rfl rfl sc_2 (RowAt.cell (hm.fact (φ := IntsAt A2 c2 m2 b) 1 rfl) (ints_get et5) rfl)) ?_
      intro a ht
      refine wph_take (i := 8) rfl (by kernel_rfl) (by kernel_rfl) (by kernel_rfl) (fun _ _ _ h => h) rfl ht hS (wanted_plain rfl) (fun w hm => ev_cmp ht rfl rfl rfl rfl) ?_
      intro a ht
      refine wph_done (by kernel_rfl) ?_
      refine then_normal ?_
      by_cases h6 : t4 ≠ t5
      · replace H := ite_yes h6 H
        refine wpc_yes ht rfl (decide_eq_true h6) ?_
        refine wp_seq ?_
        refine wpr ?_
        refine wpl rfl rfl ht (ev_assign ht rfl rfl) ?_
        intro a ht
        refine wpList_nil ?_
        refine then_normal ?_
        refine wp_ret ?_
        refine blk_ret ?_
        refine then_ret ?_
        refine then_ret ?_
        refine blk_ret ?_
        refine then_ret ?_
        have hres := ht.res (P := Try.prog) (w := w) (rs := [.tmp 4]) (vs := [.bool false]) (.tmp rfl .nil)
        obtain rfl := Option.some.inj H
        exact leave ht rfl hres ⟨rfl, ((hm.pick [] rfl (by decide)).pickφ [] rfl).post fun _ h => h⟩
      · replace H := ite_no h6 H
        refine wpc_no ht rfl (decide_eq_false h6) ?_
        refine wp_skip ?_
        refine blk_normal ?_
        refine then_normal ?_
        refine wpr ?_
        refine wpl rfl rfl ht (ev_move ht rfl rfl) ?_
        intro a ht
        refine wpl rfl rfl ht (ev_arith ht rfl rfl rfl rfl) ?_
        intro a ht
        refine wpl rfl rfl ht (ev_assign ht rfl rfl) ?_
        intro a ht
        refine wpList_nil ?_
        exact then_normal ⟨q2, by omega, (w64 (xs0_1 + 1)), H, by omega, ht.sub ⟨rfl, rfl, rfl, rfl, trivial⟩, (hm.pick [] rfl (by decide)).pickφ [0, 1] rfl⟩
    · replace H := ite_no h3 H
      refine wpc_no ht rfl (decide_eq_false h3) ?_
      refine wp_exit ?_
      refine then_exit ?_
      refine then_exit ?_
      refine blk_hit ?_
      refine then_normal ?_
      refine wp_seq ?_
      refine wpr ?_
      refine wpl rfl rfl ht (ev_assign ht rfl rfl) ?_
      intro a ht
      refine wpList_nil ?_
      refine then_normal ?_
      refine wp_ret ?_
      have hres := ht.res (P := Try.prog) (w := w) (rs := [.tmp 4]) (vs := [.bool true]) (.tmp rfl .nil)
      obtain rfl := Option.some.inj H
      exact leave ht rfl hres ⟨rfl, ((hm.pick [] rfl (by decide)).pickφ [] rfl).post fun _ h => h⟩

/-! ### laws_FnExactIsExtension: function 4 (loop.example/g01362/laws.FnExactIsExtension) -/
def laws_FnExactIsExtension.f (k : Nat) (aX : Col) (aSizes : List Int) (aColours : List Int) : Option (Bool) := if (aSizes.length : Int) > 1048576 then (some true) else (if (aColours.length : Int) > 1048576 then (some true) else ((laws_toColouring.f k aX).bind fun t4 => (laws_toInt64S.f k aSizes).bind fun t5 => (laws_toInt64S.f k aColours).bind fun t9 => (spec_IsExtension.f k t4 t5 t9).bind fun t13 => (laws_toInt64S.f k aSizes).bind fun t14 => (laws_toInt64S.f k aColours).bind fun t18 => (laws_toColouring.f k aX).bind fun t22 => (impl_IsExtension.f k t22 t14 t18).bind fun t23 => if (t23.1 != t13.1) = true then (some false) else (if t23.2 ≠ t13.2 then (some false) else ((laws_toInt64S.f k aSizes).bind fun t26 => (laws_eqInt64S.f k t14 t26).bind fun t30 => if t30 = true then ((laws_toInt64S.f k aColours).bind fun t32 => (laws_eqInt64S.f k t18 t32).bind fun t36 => if t36 = true then (some true) else (some false)) else (some false)))))
set_option maxRecDepth 100000 in
set_option maxHeartbeats 1000000 in
theorem laws_FnExactIsExtension.calls (k : Nat) (X : List Nat) (w0 : World) (A : Option Addr) (c : Nat) (m : Nat) (A2 : Option Addr) (c2 : Nat) (m2 : Nat) (aX : Col) (aSizes : List Int) (aColours : List Int) (r : Bool)
    (hp : Pre X w0 [] [IntsAt A c m aSizes, IntsAt A2 c2 m2 aColours]) (H : laws_FnExactIsExtension.f k aX aSizes aColours = some r) :
    Calls Try.prog 4 [.agg (Col.cells aX).toArray, .slice A m c, .slice A2 m2 c2].toArray w0 (Ret fun v w => v = .bool r ∧ Post X (fps []) w0 [] [] w) := by
  unfold laws_FnExactIsExtension.f at H
  refine enterM (n := 59) hp Try.func4 rfl rfl (Nat.le_of_ble_eq_true rfl) fun a w ht hm => ?_
  refine wp_seq ?_
  refine wpr ?_
  refine wpl_box rfl rfl ht hm rfl rfl rfl ?_
  intro b1 a ht w hm
  refine wpl rfl rfl ht (ev_assign ht rfl rfl) ?_
  intro a ht
  refine wpList_nil ?_
  refine then_normal ?_
  refine wp_seq ?_
  refine wp_seq ?_
  refine wpr ?_
  refine wpl rfl rfl ht (ev_move ht rfl rfl) ?_
  intro a ht
  refine wpl rfl rfl ht (ev_len_of ht rfl rfl und_25 (hm.fact (φ := IntsAt A c m aSizes) 0 rfl)) ?_
  intro a ht
  refine wpl rfl rfl ht (ev_cmp ht rfl rfl rfl rfl) ?_
  intro a ht
  refine wpList_nil ?_
  refine then_normal ?_
  by_cases h2 : (aSizes.length : Int) > 1048576
  · replace H := ite_yes h2 H
    refine wpc_yes ht rfl (decide_eq_true h2) ?_
    refine wp_seq ?_
    refine wpr ?_
    refine wpl rfl rfl ht (ev_assign ht rfl rfl) ?_
    intro a ht
    refine wpList_nil ?_
    refine then_normal ?_
    refine wp_ret ?_
    refine then_ret ?_
    have hres := ht.res (P := Try.prog) (w := w) (rs := [.tmp 6]) (vs := [.bool true]) (.tmp rfl .nil)
    obtain rfl := Option.some.inj H
    exact leave ht rfl hres ⟨rfl, ((hm.pick [] rfl (by decide)).pickφ [] rfl).post fun _ h => h⟩
  · replace H := ite_no h2 H
    refine wpc_no ht rfl (decide_eq_false h2) ?_
    refine wp_skip ?_
    refine then_normal ?_
    refine wp_seq ?_
    refine wp_seq ?_
    refine wpr ?_
    refine wpl rfl rfl ht (ev_move ht rfl rfl) ?_
    intro a ht
    refine wpl rfl rfl ht (ev_len_of ht rfl rfl und_25 (hm.fact (φ := IntsAt A2 c2 m2 aColours) 1 rfl)) ?_
    intro a ht
    refine wpl rfl rfl ht (ev_cmp ht rfl rfl rfl rfl) ?_
    intro a ht
    refine wpList_nil ?_
    refine then_normal ?_
    by_cases h3 : (aColours.length : Int) > 1048576
    · replace H := ite_yes h3 H
      refine wpc_yes ht rfl (decide_eq_true h3) ?_
      refine wp_seq ?_
      refine wpr ?_
      refine wpl rfl rfl ht (ev_assign ht rfl rfl) ?_
      intro a ht
      refine wpList_nil ?_
      refine then_normal ?_
      refine wp_ret ?_
      refine then_ret ?_
      have hres := ht.res (P := Try.prog) (w := w) (rs := [.tmp 6]) (vs := [.bool true]) (.tmp rfl .nil)
      obtain rfl := Option.some.inj H
      exact leave ht rfl hres ⟨rfl, ((hm.pick [] rfl (by decide)).pickφ [] rfl).post fun _ h => h⟩
    · replace H := ite_no h3 H
      refine wpc_no ht rfl (decide_eq_false h3) ?_
      refine wp_skip ?_
      refine then_normal ?_
      refine wp_seq ?_
      refine wpr ?_
      refine wpl rfl rfl ht (ev_load_agg ht rfl rfl (ag_24.trans (by first | rw [Col.length_cells] | rfl)) (hm.blk_all 0 rfl)) ?_
      intro a ht
      obtain ⟨t4, et4, H⟩ := bind_get H
      have hcall := laws_toColouring.calls k _ _ aX _ ((fun (hq : Ms _ _ _ ([] ++ [.blk b1 24 (Col.cells aX)]) _ _) => hq.lend (φp := []) (allRO_nil)) (hm.pick (own' := [] ++ [.blk b1 24 (Col.cells aX)]) [0] rfl (by decide))) et4
      refine wpl_call _ rfl rfl ht rfl rfl rfl rfl can_10 hcall ?_
      clear hcall
      rintro _ w ⟨rfl, hpost⟩ a ht
      replace hm := (hm.pick (own' := [] ++ [.blk b1 24 (Col.cells aX)]) [0] rfl (by decide)).backL hpost
      clear hpost
      refine wpl rfl rfl ht (ev_move ht rfl rfl) ?_
      intro a ht
      obtain ⟨t5, et5, H⟩ := bind_get H
      have hcall := laws_toInt64S.calls k _ _ A c m aSizes _ ((fun (hq : Ms _ _ _ ([] ++ [.blk b1 24 (Col.cells aX)]) _ _) => hq.lend (φp := [IntsAt A c m aSizes]) (allRO_cons (hq.lendFact 0 rfl) (allRO_nil))) (hm.pick (own' := [] ++ [.blk b1 24 (Col.cells aX)]) [0] rfl (by decide))) et5
      refine wpl_call _ rfl rfl ht rfl rfl rfl rfl can_11 hcall ?_
      clear hcall
      rintro _ w ⟨A6, c7, m8, rfl, hpost⟩ a ht
      replace hm := (hm.pick (own' := [] ++ [.blk b1 24 (Col.cells aX)]) [0] rfl (by decide)).backL hpost
      clear hpost
      refine wpl rfl rfl ht (ev_move ht rfl rfl) ?_
      intro a ht
      obtain ⟨t9, et9, H⟩ := bind_get H
      have hcall := laws_toInt64S.calls k _ _ A2 c2 m2 aColours _ ((fun (hq : Ms _ _ _ ([] ++ [.vec A6 c7 2 1 m8 (ints t5), .blk b1 24 (Col.cells aX)]) _ _) => hq.lend (φp := [IntsAt A2 c2 m2 aColours]) (allRO_cons (hq.lendFact 1 rfl) (allRO_nil))) (hm.pick (own' := [] ++ [.vec A6 c7 2 1 m8 (ints t5), .blk b1 24 (Col.cells aX)]) [0, 1] rfl (by decide))) et9
      refine wpl_call _ rfl rfl ht rfl rfl rfl rfl can_11 hcall ?_
      clear hcall
      rintro _ w ⟨A10, c11, m12, rfl, hpost⟩ a ht
      replace hm := (hm.pick (own' := [] ++ [.vec A6 c7 2 1 m8 (ints t5), .blk b1 24 (Col.cells aX)]) [0, 1] rfl (by decide)).backL hpost
      clear hpost
      obtain ⟨t13, et13, H⟩ := bind_get H
      have hcall := spec_IsExtension.calls k _ _ A6 c7 m8 A10 c11 m12 t4 t5 t9 _ ((fun (hq : Ms _ _ _ ([] ++ [.vec A10 c11 2 1 m12 (ints t9), .vec A6 c7 2 1 m8 (ints t5), .blk b1 24 (Col.cells aX)]) _ _) => hq.lend (φp := [IntsAt A6 c7 m8 t5, IntsAt A10 c11 m12 t9]) (allRO_cons (hq.lendVec 1 rfl) (allRO_cons (hq.lendVec 0 rfl) (allRO_nil)))) (hm.pick (own' := [] ++ [.vec A10 c11 2 1 m12 (ints t9), .vec A6 c7 2 1 m8 (ints t5), .blk b1 24 (Col.cells aX)]) [0, 1, 2] rfl (by decide))) et13
      refine wpl_call _ rfl rfl ht rfl rfl rfl rfl can_16 hcall ?_
      clear hcall
      rintro _ w ⟨rfl, hpost⟩ a ht
      replace hm := (hm.pick (own' := [] ++ [.vec A10 c11 2 1 m12 (ints t9), .vec A6 c7 2 1 m8 (ints t5), .blk b1 24 (Col.cells aX)]) [0, 1, 2] rfl (by decide)).backL hpost
      clear hpost
      refine wpl rfl rfl ht (ev_move ht rfl rfl) ?_
      intro a ht
      refine wpl rfl rfl ht (ev_extract ht rfl rfl rfl) ?_
      intro a ht
      refine wpl rfl rfl ht (ev_extract ht rfl rfl rfl) ?_
      intro a ht
      refine wpl rfl rfl ht (ev_assign ht rfl rfl) ?_
      intro a ht
      refine wpl rfl rfl ht (ev_assign ht rfl rfl) ?_
      intro a ht
      refine wpList_nil ?_
      refine then_normal ?_
      refine wp_seq ?_
      refine wpr ?_
      refine wpl rfl rfl ht (ev_move ht rfl rfl) ?_
      intro a ht
      obtain ⟨t14, et14, H⟩ := bind_get H
      have hcall := laws_toInt64S.calls k _ _ A c m aSizes _ ((fun (hq : Ms _ _ _ ([] ++ [.vec A10 c11 2 1 m12 (ints t9), .vec A6 c7 2 1 m8 (ints t5), .blk b1 24 (Col.cells aX)]) _ _) => hq.lend (φp := [IntsAt A c m aSizes]) (allRO_cons (hq.lendFact 0 rfl) (allRO_nil))) (hm.pick (own' := [] ++ [.vec A10 c11 2 1 m12 (ints t9), .vec A6 c7 2 1 m8 (ints t5), .blk b1 24 (Col.cells aX)]) [0, 1, 2] rfl (by decide))) et14
      refine wpl_call _ rfl rfl ht rfl rfl rfl rfl can_11 hcall ?_
      clear hcall
      rintro _ w ⟨A15, c16, m17, rfl, hpost⟩ a ht
      replace hm := (hm.pick (own' := [] ++ [.vec A10 c11 2 1 m12 (ints t9), .vec A6 c7 2 1 m8 (ints t5), .blk b1 24 (Col.cells aX)]) [0, 1, 2] rfl (by decide)).backL hpost
      clear hpost
      refine wpl rfl rfl ht (ev_assign ht rfl rfl) ?_
      intro a ht
      refine wpList_nil ?_
      refine then_normal ?_
      refine wp_seq ?_
      refine wpr ?_
      refine wpl rfl rfl ht (ev_move ht rfl rfl) ?_
      intro a ht
      obtain ⟨t18, et18, H⟩ := bind_get H
      have hcall := laws_toInt64S.calls k _ _ A2 c2 m2 aColours _ ((fun (hq : Ms _ _ _ ([] ++ [.vec A15 c16 2 1 m17 (ints t14), .vec A10 c11 2 1 m12 (ints t9), .vec A6 c7 2 1 m8 (ints t5), .blk b1 24 (Col.cells aX)]) _ _) => hq.lend (φp := [IntsAt A2 c2 m2 aColours]) (allRO_cons (hq.lendFact 1 rfl) (allRO_nil))) (hm.pick (own' := [] ++ [.vec A15 c16 2 1 m17 (ints t14), .vec A10 c11 2 1 m12 (ints t9), .vec A6 c7 2 1 m8 (ints t5), .blk b1 24 (Col.cells aX)]) [0, 1, 2, 3] rfl (by decide))) et18
      refine wpl_call _ rfl rfl ht rfl rfl rfl rfl can_11 hcall ?_
      clear hcall
      rintro _ w ⟨A19, c20, m21, rfl, hpost⟩ a ht
      replace hm := (hm.pick (own' := [] ++ [.vec A15 c16 2 1 m17 (ints t14), .vec A10 c11 2 1 m12 (ints t9), .vec A6 c7 2 1 m8 (ints t5), .blk b1 24 (Col.cells aX)]) [0, 1, 2, 3] rfl (by decide)).backL hpost
      clear hpost
      refine wpl rfl rfl ht (ev_assign ht rfl rfl) ?_
      intro a ht
      refine wpList_nil ?_
      refine then_normal ?_
      refine wp_seq ?_
      refine wpr ?_
      refine wpl rfl rfl ht (ev_load_agg ht rfl rfl (ag_24.trans (by first | rw [Col.length_cells] | rfl)) (hm.blk_all 4 rfl)) ?_
      intro a ht
      obtain ⟨t22, et22, H⟩ := bind_get H
      have hcall := laws_toColouring.calls k _ _ aX _ ((fun (hq : Ms _ _ _ ([] ++ [.vec A19 c20 2 1 m21 (ints t18), .vec A15 c16 2 1 m17 (ints t14), .vec A10 c11 2 1 m12 (ints t9), .vec A6 c7 2 1 m8 (ints t5), .blk b1 24 (Col.cells aX)]) _ _) => hq.lend (φp := []) (allRO_nil)) (hm.pick (own' := [] ++ [.vec A19 c20 2 1 m21 (ints t18), .vec A15 c16 2 1 m17 (ints t14), .vec A10 c11 2 1 m12 (ints t9), .vec A6 c7 2 1 m8 (ints t5), .blk b1 24 (Col.cells aX)]) [0, 1, 2, 3, 4] rfl (by decide))) et22
      refine wpl_call _ rfl rfl ht rfl rfl rfl rfl can_10 hcall ?_
      clear hcall
      rintro _ w ⟨rfl, hpost⟩ a ht
      replace hm := (hm.pick (own' := [] ++ [.vec A19 c20 2 1 m21 (ints t18), .vec A15 c16 2 1 m17 (ints t14), .vec A10 c11 2 1 m12 (ints t9), .vec A6 c7 2 1 m8 (ints t5), .blk b1 24 (Col.cells aX)]) [0, 1, 2, 3, 4] rfl (by decide)).backL hpost
      clear hpost
      refine wpl rfl rfl ht (ev_move ht rfl rfl) ?_
      intro a ht
      refine wpl rfl rfl ht (ev_move ht rfl rfl) ?_
      intro a ht
      obtain ⟨t23, et23, H⟩ := bind_get H
      have hcall := impl_IsExtension.calls k _ _ A15 c16 m17 A19 c20 m21 t22 t14 t18 _ ((fun (hq : Ms _ _ _ ([] ++ [.vec A19 c20 2 1 m21 (ints t18), .vec A15 c16 2 1 m17 (ints t14), .vec A10 c11 2 1 m12 (ints t9), .vec A6 c7 2 1 m8 (ints t5), .blk b1 24 (Col.cells aX)]) _ _) => hq.lend (φp := [IntsAt A15 c16 m17 t14, IntsAt A19 c20 m21 t18]) (allRO_cons (hq.lendVec 1 rfl) (allRO_cons (hq.lendVec 0 rfl) (allRO_nil)))) (hm.pick (own' := [] ++ [.vec A19 c20 2 1 m21 (ints t18), .vec A15 c16 2 1 m17 (ints t14), .vec A10 c11 2 1 m12 (ints t9), .vec A6 c7 2 1 m8 (ints t5), .blk b1 24 (Col.cells aX)]) [0, 1, 2, 3, 4] rfl (by decide))) et23
      refine wpl_call _ rfl rfl ht rfl rfl rfl rfl can_17 hcall ?_
      clear hcall
      rintro _ w ⟨rfl, hpost⟩ a ht
      replace hm := (hm.pick (own' := [] ++ [.vec A19 c20 2 1 m21 (ints t18), .vec A15 c16 2 1 m17 (ints t14), .vec A10 c11 2 1 m12 (ints t9), .vec A6 c7 2 1 m8 (ints t5), .blk b1 24 (Col.cells aX)]) [0, 1, 2, 3, 4] rfl (by decide)).backL hpost
      clear hpost
      refine wpl rfl rfl ht (ev_move ht rfl rfl) ?_
      intro a ht
      refine wpl rfl rfl ht (ev_extract ht rfl rfl rfl) ?_
      intro a ht
      refine wpl rfl rfl ht (ev_extract ht rfl rfl rfl) ?_
      intro a ht
      refine wpl rfl rfl ht (ev_assign ht rfl rfl) ?_
      intro a ht
      refine wpl rfl rfl ht (ev_assign ht rfl rfl) ?_
      intro a ht
      refine wpList_nil ?_
      refine then_normal ?_
      refine wp_seq ?_
      refine wp_seq ?_
      refine wpr ?_
      refine wpl rfl rfl ht (ev_move ht rfl rfl) ?_
      intro a ht
      refine wpl rfl rfl ht (ev_move ht rfl rfl) ?_
      intro a ht
      refine wpl rfl rfl ht (ev_ne_bool ht rfl rfl rfl und_4) ?_
      intro a ht
      refine wpl rfl rfl ht (ev_move ht rfl rfl) ?_
      intro a ht
      by_cases h24 : (t23.1 != t13.1) = true
      · replace H := ite_yes h24 H
        refine wpl_no rfl rfl ht rfl (by rw [h24]; decide) ?_
        intro a ht
        refine wpl_no rfl rfl ht rfl (by rw [h24]; decide) ?_
        intro a ht
        refine wpl_no rfl rfl ht rfl (by rw [h24]; decide) ?_
        intro a ht
        refine wpl rfl rfl ht (ev_pick_yes ht rfl rfl h24 rfl) ?_
        intro a ht
        refine wpList_nil ?_
        refine then_normal ?_
        refine wpc_yes ht rfl rfl ?_
        refine wp_seq ?_
        refine wpr ?_
        refine wpl rfl rfl ht (ev_assign ht rfl rfl) ?_
        intro a ht
        refine wpList_nil ?_
        refine then_normal ?_
        refine wp_ret ?_
        refine then_ret ?_
        have hres := ht.res (P := Try.prog) (w := w) (rs := [.tmp 6]) (vs := [.bool false]) (.tmp rfl .nil)
        obtain rfl := Option.some.inj H
        exact leave ht rfl hres ⟨rfl, ((hm.pick [] rfl (by decide)).pickφ [] rfl).post fun _ h => h⟩
      · replace H := ite_no h24 H
        refine wpl_yes rfl ht rfl ((Bool.eq_false_iff.mpr h24)) ?_
        refine wpl rfl rfl ht (ev_move ht rfl rfl) ?_
        intro a ht
        refine wpl_yes rfl ht rfl ((Bool.eq_false_iff.mpr h24)) ?_
        refine wpl rfl rfl ht (ev_move ht rfl rfl) ?_
        intro a ht
        refine wpl_yes rfl ht rfl ((Bool.eq_false_iff.mpr h24)) ?_
        refine wpl rfl rfl ht (ev_cmp ht rfl rfl rfl rfl) ?_
        intro a ht
        refine wpl rfl rfl ht (ev_pick_no ht rfl rfl (Bool.eq_false_iff.mpr h24) rfl) ?_
        intro a ht
        refine wpList_nil ?_
        refine then_normal ?_
        by_cases h25 : t23.2 ≠ t13.2
        · replace H := ite_yes h25 H
          refine wpc_yes ht rfl (decide_eq_true h25) ?_
          refine wp_seq ?_
          refine wpr ?_
          refine wpl rfl rfl ht (ev_assign ht rfl rfl) ?_
          intro a ht
          refine wpList_nil ?_
          refine then_normal ?_
          refine wp_ret ?_
          refine then_ret ?_
          have hres := ht.res (P := Try.prog) (w := w) (rs := [.tmp 6]) (vs := [.bool false]) (.tmp rfl .nil)
          obtain rfl := Option.some.inj H
          exact leave ht rfl hres ⟨rfl, ((hm.pick [] rfl (by decide)).pickφ [] rfl).post fun _ h => h⟩
        · replace H := ite_no h25 H
          refine wpc_no ht rfl (decide_eq_false h25) ?_
          refine wp_skip ?_
          refine then_normal ?_
          refine wp_seq ?_
          refine wp_seq ?_
          refine wpr ?_
          refine wpl rfl rfl ht (ev_move ht rfl rfl) ?_
          intro a ht
          refine wpl rfl rfl ht (ev_move ht rfl rfl) ?_
          intro a ht
          obtain ⟨t26, et26, H⟩ := bind_get H
          have hcall := laws_toInt64S.calls k _ _ A c m aSizes _ ((fun (hq : Ms _ _ _ ([] ++ [.vec A19 c20 2 1 m21 (ints t18), .vec A15 c16 2 1 m17 (ints t14), .vec A10 c11 2 1 m12 (ints t9), .vec A6 c7 2 1 m8 (ints t5), .blk b1 24 (Col.cells aX)]) _ _) => hq.lend (φp := [IntsAt A c m aSizes]) (allRO_cons (hq.lendFact 0 rfl) (allRO_nil))) (hm.pick (own' := [] ++ [.vec A19 c20 2 1 m21 (ints t18), .vec A15 c16 2 1 m17 (ints t14), .vec A10 c11 2 1 m12 (ints t9), .vec A6 c7 2 1 m8 (ints t5), .blk b1 24 (Col.cells aX)]) [0, 1, 2, 3, 4] rfl (by decide))) et26
          refine wpl_call _ rfl rfl ht rfl rfl rfl rfl can_11 hcall ?_
          clear hcall
          rintro _ w ⟨A27, c28, m29, rfl, hpost⟩ a ht
          replace hm := (hm.pick (own' := [] ++ [.vec A19 c20 2 1 m21 (ints t18), .vec A15 c16 2 1 m17 (ints t14), .vec A10 c11 2 1 m12 (ints t9), .vec A6 c7 2 1 m8 (ints t5), .blk b1 24 (Col.cells aX)]) [0, 1, 2, 3, 4] rfl (by decide)).backL hpost
          clear hpost
          obtain ⟨t30, et30, H⟩ := bind_get H
          have hcall := laws_eqInt64S.calls k _ _ A15 c16 m17 A27 c28 m29 t14 t26 _ ((fun (hq : Ms _ _ _ ([] ++ [.vec A27 c28 2 1 m29 (ints t26), .vec A19 c20 2 1 m21 (ints t18), .vec A15 c16 2 1 m17 (ints t14), .vec A10 c11 2 1 m12 (ints t9), .vec A6 c7 2 1 m8 (ints t5), .blk b1 24 (Col.cells aX)]) _ _) => hq.lend (φp := [IntsAt A15 c16 m17 t14, IntsAt A27 c28 m29 t26]) (allRO_cons (hq.lendVec 2 rfl) (allRO_cons (hq.lendVec 0 rfl) (allRO_nil)))) (hm.pick (own' := [] ++ [.vec A27 c28 2 1 m29 (ints t26), .vec A19 c20 2 1 m21 (ints t18), .vec A15 c16 2 1 m17 (ints t14), .vec A10 c11 2 1 m12 (ints t9), .vec A6 c7 2 1 m8 (ints t5), .blk b1 24 (Col.cells aX)]) [0, 1, 2, 3, 4, 5] rfl (by decide))) et30
          refine wpl_call _ rfl rfl ht rfl rfl rfl rfl can_13 hcall ?_
          clear hcall
          rintro _ w ⟨rfl, hpost⟩ a ht
          replace hm := (hm.pick (own' := [] ++ [.vec A27 c28 2 1 m29 (ints t26), .vec A19 c20 2 1 m21 (ints t18), .vec A15 c16 2 1 m17 (ints t14), .vec A10 c11 2 1 m12 (ints t9), .vec A6 c7 2 1 m8 (ints t5), .blk b1 24 (Col.cells aX)]) [0, 1, 2, 3, 4, 5] rfl (by decide)).backL hpost
          clear hpost
          refine wpl rfl rfl ht (ev_not ht rfl rfl) ?_
          intro a ht
          refine wpList_nil ?_
          refine then_normal ?_
          by_cases h31 : t30 = true
          · replace H := ite_yes h31 H
            refine wpc_no ht rfl (not_t h31) ?_
            refine wp_skip ?_
            refine then_normal ?_
            refine wp_seq ?_
            refine wp_seq ?_
            refine wpr ?_
            refine wpl rfl rfl ht (ev_move ht rfl rfl) ?_
            intro a ht
            refine wpl rfl rfl ht (ev_move ht rfl rfl) ?_
            intro a ht
            obtain ⟨t32, et32, H⟩ := bind_get H
            have hcall := laws_toInt64S.calls k _ _ A2 c2 m2 aColours _ ((fun (hq : Ms _ _ _ ([] ++ [.vec A27 c28 2 1 m29 (ints t26), .vec A19 c20 2 1 m21 (ints t18), .vec A15 c16 2 1 m17 (ints t14), .vec A10 c11 2 1 m12 (ints t9), .vec A6 c7 2 1 m8 (ints t5), .blk b1 24 (Col.cells aX)]) _ _) => hq.lend (φp := [IntsAt A2 c2 m2 aColours]) (allRO_cons (hq.lendFact 1 rfl) (allRO_nil))) (hm.pick (own' := [] ++ [.vec A27 c28 2 1 m29 (ints t26), .vec A19 c20 2 1 m21 (ints t18), .vec A15 c16 2 1 m17 (ints t14), .vec A10 c11 2 1 m12 (ints t9), .vec A6 c7 2 1 m8 (ints t5), .blk b1 24 (Col.cells aX)]) [0, 1, 2, 3, 4, 5] rfl (by decide))) et32
            refine wpl_call _ rfl rfl ht rfl rfl rfl rfl can_11 hcall ?_
            clear hcall
            rintro _ w ⟨A33, c34, m35, rfl, hpost⟩ a ht
            replace hm := (hm.pick (own' := [] ++ [.vec A27 c28 2 1 m29 (ints t26), .vec A19 c20 2 1 m21 (ints t18), .vec A15 c16 2 1 m17 (ints t14), .vec A10 c11 2 1 m12 (ints t9), .vec A6 c7 2 1 m8 (ints t5), .blk b1 24 (Col.cells aX)]) [0, 1, 2, 3, 4, 5] rfl (by decide)).backL hpost
            clear hpost
            obtain ⟨t36, et36, H⟩ := bind_get H
            have hcall := laws_eqInt64S.calls k _ _ A19 c20 m21 A33 c34 m35 t18 t32 _ ((fun (hq : Ms _ _ _ ([] ++ [.vec A33 c34 2 1 m35 (ints t32), .vec A27 c28 2 1 m29 (ints t26), .vec A19 c20 2 1 m21 (ints t18), .vec A15 c16 2 1 m17 (ints t14), .vec A10 c11 2 1 m12 (ints t9), .vec A6 c7 2 1 m8 (ints t5), .blk b1 24 (Col.cells aX)]) _ _) => hq.lend (φp := [IntsAt A19 c20 m21 t18, IntsAt A33 c34 m35 t32]) (allRO_cons (hq.lendVec 2 rfl) (allRO_cons (hq.lendVec 0 rfl) (allRO_nil)))) (hm.pick (own' := [] ++ [.vec A33 c34 2 1 m35 (ints t32), .vec A27 c28 2 1 m29 (ints t26), .vec A19 c20 2 1 m21 (ints t18), .vec A15 c16 2 1 m17 (ints t14), .vec A10 c11 2 1 m12 (ints t9), .vec A6 c7 2 1 m8 (ints t5), .blk b1 24 (Col.cells aX)]) [0, 1, 2, 3, 4, 5, 6] rfl (by decide))) et36
            refine wpl_call _ rfl rfl ht rfl rfl rfl rfl can_13 hcall ?_
            clear hcall
            rintro _ w ⟨rfl, hpost⟩ a ht
            replace hm := (hm.pick (own' := [] ++ [.vec A33 c34 2 1 m35 (ints t32), .vec A27 c28 2 1 m29 (ints t26), .vec A19 c20 2 1 m21 (ints t18), .vec A15 c16 2 1 m17 (ints t14), .vec A10 c11 2 1 m12 (ints t9), .vec A6 c7 2 1 m8 (ints t5), .blk b1 24 (Col.cells aX)]) [0, 1, 2, 3, 4, 5, 6] rfl (by decide)).backL hpost
            clear hpost
            refine wpl rfl rfl ht (ev_not ht rfl rfl) ?_
            intro a ht
            refine wpList_nil ?_
            refine then_normal ?_
            by_cases h37 : t36 = true
            · replace H := ite_yes h37 H
              refine wpc_no ht rfl (not_t h37) ?_
              refine wp_skip ?_
              refine then_normal ?_
              refine wp_seq ?_
              refine wpr ?_
              refine wpl rfl rfl ht (ev_assign ht rfl rfl) ?_
              intro a ht
              refine wpList_nil ?_
              refine then_normal ?_
              refine wp_ret ?_
              have hres := ht.res (P := Try.prog) (w := w) (rs := [.tmp 6]) (vs := [.bool true]) (.tmp rfl .nil)
              obtain rfl := Option.some.inj H
              exact leave ht rfl hres ⟨rfl, ((hm.pick [] rfl (by decide)).pickφ [] rfl).post fun _ h => h⟩
            · replace H := ite_no h37 H
              refine wpc_yes ht rfl (not_f (Bool.eq_false_iff.mpr h37)) ?_
              refine wp_seq ?_
              refine wpr ?_
              refine wpl rfl rfl ht (ev_assign ht rfl rfl) ?_
              intro a ht
              refine wpList_nil ?_
              refine then_normal ?_
              refine wp_ret ?_
              refine then_ret ?_
              have hres := ht.res (P := Try.prog) (w := w) (rs := [.tmp 6]) (vs := [.bool false]) (.tmp rfl .nil)
              obtain rfl := Option.some.inj H
              exact leave ht rfl hres ⟨rfl, ((hm.pick [] rfl (by decide)).pickφ [] rfl).post fun _ h => h⟩
          · replace H := ite_no h31 H
            refine wpc_yes ht rfl (not_f (Bool.eq_false_iff.mpr h31)) ?_
            refine wp_seq ?_
            refine wpr ?_
            refine wpl rfl rfl ht (ev_assign ht rfl rfl) ?_
            intro a ht
            refine wpList_nil ?_
            refine then_normal ?_
            refine wp_ret ?_
            refine then_ret ?_
            have hres := ht.res (P := Try.prog) (w := w) (rs := [.tmp 6]) (vs := [.bool false]) (.tmp rfl .nil)
            obtain rfl := Option.some.inj H
            exact leave ht rfl hres ⟨rfl, ((hm.pick [] rfl (by decide)).pickφ [] rfl).post fun _ h => h⟩

end Go.Proofs.Ytocjhmeekecdiaa.G
