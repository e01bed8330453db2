/- What each Go function computes, as a Lean function, and the proof that it does: written by a program of this session (wip/gen), part 5. -/
import Derived.Test.YtocjhmeekecdiaaGFnExactFreeChanges4
namespace Go.Proofs.Ytocjhmeekecdiaa.G
open Go Go.RowKit Go.Proofs.Ytocjhmeekecdiaa.K
set_option linter.unusedVariables false
set_option linter.unusedSimpArgs false

/-! ### impl_Colouring_sizesCode_1__always: function 71 ((*loop.example/g01362/impl.Colouring).sizesCode$1) -/
def impl_Colouring_sizesCode_1__always.f (k : Nat) (x : List Int) (x2 : Col) : Option (Bool) := (impl_areForbidden.f k x x2.k).bind fun t1 => if t1 = true then ((impl_always.f ).bind fun t3 => some t3) else (some false)
set_option maxRecDepth 100000 in
set_option maxHeartbeats 1000000 in
theorem impl_Colouring_sizesCode_1__always.calls (k : Nat) (X : List Nat) (w0 : World) (b : Nat) (A : Option Addr) (c : Nat) (m : Nat) (b2 : Nat) (b3 : Nat) (b4 : Nat) (x : List Int) (x2 : Col) (r : Bool)
    (hp : Pre X w0 [.blk b 25 [.slice A m c], .blk b2 70 [.pointer (some ⟨b3, 0, none⟩)], .blk b3 28 (Col.cells x2), .blk b4 49 [.func (.func 33) #[] #[]]] [IntsAt A c m x]) (H : impl_Colouring_sizesCode_1__always.f k x x2 = some r) :
    Calls Try.prog 71 [.pointer (some ⟨b, 0, none⟩), .pointer (some ⟨b2, 0, none⟩), .pointer (some ⟨b4, 0, none⟩)].toArray w0 (Ret fun v w => v = .bool r ∧ Post X (fps [.blk b 25 [.slice A m c], .blk b2 70 [.pointer (some ⟨b3, 0, none⟩)], .blk b3 28 (Col.cells x2), .blk b4 49 [.func (.func 33) #[] #[]]]) w0 [.blk b 25 [.slice A m c], .blk b2 70 [.pointer (some ⟨b3, 0, none⟩)], .blk b3 28 (Col.cells x2), .blk b4 49 [.func (.func 33) #[] #[]]] [] w) := by
  unfold impl_Colouring_sizesCode_1__always.f at H
  refine enterM (n := 14) hp Try.func71 rfl rfl (Nat.le_of_ble_eq_true rfl) fun a w ht hm => ?_
  refine wp_seq ?_
  refine wpr ?_
  refine wpl rfl rfl ht (ev_assign ht rfl rfl) ?_
  intro a ht
  refine wpList_nil ?_
  refine then_normal ?_
  refine wp_seq ?_
  refine wph_begin (fun w => Ms X (fps [.blk b 25 [.slice A m c], .blk b2 70 [.pointer (some ⟨b3, 0, none⟩)], .blk b3 28 (Col.cells x2), .blk b4 49 [.func (.func 33) #[] #[]]]) w0 [.blk b 25 [.slice A m c], .blk b2 70 [.pointer (some ⟨b3, 0, none⟩)], .blk b3 28 (Col.cells x2), .blk b4 49 [.func (.func 33) #[] #[]]] [IntsAt A c m x] w) mixed ?_
  replace hm := hm.drew
  have hS : Ms X (fps [.blk b 25 [.slice A m c], .blk b2 70 [.pointer (some ⟨b3, 0, none⟩)], .blk b3 28 (Col.cells x2), .blk b4 49 [.func (.func 33) #[] #[]]]) w0 [.blk b 25 [.slice A m c], .blk b2 70 [.pointer (some ⟨b3, 0, none⟩)], .blk b3 28 (Col.cells x2), .blk b4 49 [.func (.func 33) #[] #[]]] [IntsAt A c m x] w.drew := (hm.pick [0, 1, 2, 3] rfl (by decide)).pickφ [0] rfl
  generalize w.drew = w at hm hS ⊢
  refine wph_take (i := 0) rfl (by kernel_rfl) (by kernel_rfl) (by kernel_rfl) (fun _ _ _ h => h) rfl ht hS (wanted_plain rfl) (fun w hm => ev_load ht rfl rfl sc_25 (hm.blk_cell 0 rfl rfl)) ?_
  intro a ht
  refine wph_take (i := 1) rfl (by kernel_rfl) (by kernel_rfl) (by kernel_rfl) (fun _ _ _ h => h) rfl ht hS (wanted_plain rfl) (fun w hm => ev_load ht rfl rfl sc_70 (hm.blk_cell 1 rfl rfl)) ?_
  intro a ht
  refine wph_take (i := 2) rfl (by kernel_rfl) (by kernel_rfl) (by kernel_rfl) (fun _ _ _ h => h) rfl ht hS (wanted_plain rfl) (fun w hm => ev_nilCheck ht rfl rfl) ?_
  intro a ht
  refine wph_take (i := 3) rfl (by kernel_rfl) (by kernel_rfl) (by kernel_rfl) (fun _ _ _ h => h) rfl ht hS (wanted_plain rfl) (fun w hm => ev_fieldAddr ht rfl rfl fo_28_1) ?_
  intro a ht
  refine wph_take (i := 4) rfl (by kernel_rfl) (by kernel_rfl) (by kernel_rfl) (fun _ _ _ h => h) rfl ht hS (wanted_plain rfl) (fun w hm => ev_load ht rfl rfl sc_2 (hm.blk_cell 2 rfl rfl)) ?_
  intro a ht
  refine wph_one (i := 5) (by kernel_rfl) (wph_step rfl ?_)
  obtain ⟨t1, et1, H⟩ := bind_get H
  have hcall := impl_areForbidden.calls k _ _ A c m x x2.k _ ((fun (hq : Ms _ _ _ ([] ++ [.blk b 25 [.slice A m c], .blk b2 70 [.pointer (some ⟨b3, 0, none⟩)], .blk b3 28 (Col.cells x2), .blk b4 49 [.func (.func 33) #[] #[]]]) _ _) => hq.lend (φp := [IntsAt A c m x]) (allRO_cons (hq.lendFact 0 rfl) (allRO_nil))) (hm.pick (own' := [] ++ [.blk b 25 [.slice A m c], .blk b2 70 [.pointer (some ⟨b3, 0, none⟩)], .blk b3 28 (Col.cells x2), .blk b4 49 [.func (.func 33) #[] #[]]]) [0, 1, 2, 3] rfl (by decide))) et1
  refine wpl_call _ rfl rfl ht rfl rfl rfl rfl can_72 hcall ?_
  clear hcall
  rintro _ w ⟨rfl, hpost⟩ a ht
  replace hm := (hm.pick (own' := [] ++ [.blk b 25 [.slice A m c], .blk b2 70 [.pointer (some ⟨b3, 0, none⟩)], .blk b3 28 (Col.cells x2), .blk b4 49 [.func (.func 33) #[] #[]]]) [0, 1, 2, 3] rfl (by decide)).backL hpost
  clear hpost
  have hS : Ms X (fps [.blk b 25 [.slice A m c], .blk b2 70 [.pointer (some ⟨b3, 0, none⟩)], .blk b3 28 (Col.cells x2), .blk b4 49 [.func (.func 33) #[] #[]]]) w0 [.blk b 25 [.slice A m c], .blk b2 70 [.pointer (some ⟨b3, 0, none⟩)], .blk b3 28 (Col.cells x2), .blk b4 49 [.func (.func 33) #[] #[]]] [IntsAt A c m x] w := (hm.pick [0, 1, 2, 3] rfl (by decide)).pickφ [0] rfl
  refine wpList_nil (qn ⟨hS, ?_⟩)
  refine wph_take (i := 6) rfl (by kernel_rfl) (by kernel_rfl) (by kernel_rfl) (fun _ _ _ h => h) rfl ht hS (wanted_plain rfl) (fun w hm => ev_move ht rfl rfl) ?_
  intro a ht
  by_cases h2 : t1 = true
  · replace H := ite_yes h2 H
    refine wph_take (i := 7) rfl (by kernel_rfl) (by kernel_rfl) (by kernel_rfl) (fun _ _ _ h => h) rfl ht hS (wanted_yes rfl ht rfl (h2)) (fun w hm => ev_load ht rfl rfl sc_49 (hm.blk_cell 3 rfl rfl)) ?_
    intro a ht
    refine wph_one (i := 8) (by kernel_rfl) (wph_step rfl ?_)
    refine wpl_yes rfl ht rfl (h2) ?_
    obtain ⟨t3, et3, H⟩ := bind_get H
    have hcall := impl_always.calls _ _ _ ((fun (hq : Ms _ _ _ ([] ++ [.blk b 25 [.slice A m c], .blk b2 70 [.pointer (some ⟨b3, 0, none⟩)], .blk b3 28 (Col.cells x2), .blk b4 49 [.func (.func 33) #[] #[]]]) _ _) => hq.lend (φp := []) (allRO_nil)) (hm.pick (own' := [] ++ [.blk b 25 [.slice A m c], .blk b2 70 [.pointer (some ⟨b3, 0, none⟩)], .blk b3 28 (Col.cells x2), .blk b4 49 [.func (.func 33) #[] #[]]]) [0, 1, 2, 3] rfl (by decide))) et3
    refine wpl_call _ rfl rfl ht rfl rfl rfl rfl can_33 hcall ?_
    clear hcall
    rintro _ w ⟨rfl, hpost⟩ a ht
    replace hm := (hm.pick (own' := [] ++ [.blk b 25 [.slice A m c], .blk b2 70 [.pointer (some ⟨b3, 0, none⟩)], .blk b3 28 (Col.cells x2), .blk b4 49 [.func (.func 33) #[] #[]]]) [0, 1, 2, 3] rfl (by decide)).backL hpost
    clear hpost
    have hS : Ms X (fps [.blk b 25 [.slice A m c], .blk b2 70 [.pointer (some ⟨b3, 0, none⟩)], .blk b3 28 (Col.cells x2), .blk b4 49 [.func (.func 33) #[] #[]]]) w0 [.blk b 25 [.slice A m c], .blk b2 70 [.pointer (some ⟨b3, 0, none⟩)], .blk b3 28 (Col.cells x2), .blk b4 49 [.func (.func 33) #[] #[]]] [IntsAt A c m x] w := (hm.pick [0, 1, 2, 3] rfl (by decide)).pickφ [0] rfl
    refine wpList_nil (qn ⟨hS, ?_⟩)
    refine wph_take (i := 9) rfl (by kernel_rfl) (by kernel_rfl) (by kernel_rfl) (fun _ _ _ h => h) rfl ht hS (wanted_plain rfl) (fun w hm => ev_pick_yes ht rfl rfl h2 rfl) ?_
    intro a ht
    refine wph_take (i := 10) rfl (by kernel_rfl) (by kernel_rfl) (by kernel_rfl) (fun _ _ _ h => h) rfl ht hS (wanted_plain rfl) (fun w hm => ev_assign ht rfl rfl) ?_
    intro a ht
    refine wph_done (by kernel_rfl) ?_
    refine then_normal ?_
    refine wp_ret ?_
    have hres := ht.res (P := Try.prog) (w := w) (rs := [.tmp 3]) (vs := [.bool t3]) (.tmp rfl .nil)
    obtain rfl := Option.some.inj H
    exact leave ht rfl hres ⟨rfl, ((hm.pick [0, 1, 2, 3] rfl (by decide)).pickφ [] rfl).post fun _ h => h⟩
  · replace H := ite_no h2 H
    refine wph_pass (i := 7) rfl (by kernel_rfl) (by kernel_rfl) (by kernel_rfl) (fun _ _ _ h => h) rfl ht hS (wanted_no rfl ht rfl (by rw [(Bool.eq_false_iff.mpr h2)]; decide)) ?_
    intro a ht
    refine wph_pass (i := 8) rfl (by kernel_rfl) (by kernel_rfl) (by kernel_rfl) (fun _ _ _ h => h) rfl ht hS (wanted_no rfl ht rfl (by rw [(Bool.eq_false_iff.mpr h2)]; decide)) ?_
    intro a ht
    refine wph_take (i := 9) rfl (by kernel_rfl) (by kernel_rfl) (by kernel_rfl) (fun _ _ _ h => h) rfl ht hS (wanted_plain rfl) (fun w hm => ev_pick_no ht rfl rfl (Bool.eq_false_iff.mpr h2) rfl) ?_
    intro a ht
    refine wph_take (i := 10) rfl (by kernel_rfl) (by kernel_rfl) (by kernel_rfl) (fun _ _ _ h => h) rfl ht hS (wanted_plain rfl) (fun w hm => ev_assign ht rfl rfl) ?_
    intro a ht
    refine wph_done (by kernel_rfl) ?_
    refine then_normal ?_
    refine wp_ret ?_
    have hres := ht.res (P := Try.prog) (w := w) (rs := [.tmp 3]) (vs := [.bool false]) (.tmp rfl .nil)
    obtain rfl := Option.some.inj H
    exact leave ht rfl hres ⟨rfl, ((hm.pick [0, 1, 2, 3] rfl (by decide)).pickφ [] rfl).post fun _ h => h⟩

/-! ### impl_Colouring_code__Colouring_sizesCode_1__always: function 70 ((*loop.example/g01362/impl.Colouring).code) -/
def impl_Colouring_code__Colouring_sizesCode_1__always.f (k : Nat) (x : Col) (right : List Int) : Option (Int) := (impl_Colouring_isColouring.f k x).bind fun t1 => if t1 = true then ((impl_Colouring_sizesCode_1__always.f k right x).bind fun t3 => if t3 = true then (some 0) else (some 2)) else (some 1)
set_option maxRecDepth 100000 in
set_option maxHeartbeats 1000000 in
theorem impl_Colouring_code__Colouring_sizesCode_1__always.calls (k : Nat) (X : List Nat) (w0 : World) (b : Nat) (b2 : Nat) (A : Option Addr) (c : Nat) (m : Nat) (b3 : Nat) (b4 : Nat) (x : Col) (right : List Int) (r : Int)
    (hp : Pre X w0 [.blk b 28 (Col.cells x), .blk b2 25 [.slice A m c], .blk b3 70 [.pointer (some ⟨b, 0, none⟩)], .blk b4 49 [.func (.func 33) #[] #[]]] [IntsAt A c m right]) (H : impl_Colouring_code__Colouring_sizesCode_1__always.f k x right = some r) :
    Calls Try.prog 70 [.pointer (some ⟨b, 0, none⟩), .func (.func 71) [].toArray [.pointer (some ⟨b2, 0, none⟩), .pointer (some ⟨b3, 0, none⟩), .pointer (some ⟨b4, 0, none⟩)].toArray].toArray w0 (Ret fun v w => v = .int .i64 r ∧ Post X (fps [.blk b 28 (Col.cells x), .blk b2 25 [.slice A m c], .blk b3 70 [.pointer (some ⟨b, 0, none⟩)], .blk b4 49 [.func (.func 33) #[] #[]]]) w0 [.blk b 28 (Col.cells x), .blk b2 25 [.slice A m c], .blk b3 70 [.pointer (some ⟨b, 0, none⟩)], .blk b4 49 [.func (.func 33) #[] #[]]] [] w) := by
  unfold impl_Colouring_code__Colouring_sizesCode_1__always.f at H
  refine enterM (n := 13) hp Try.func70 rfl rfl (Nat.le_of_ble_eq_true rfl) fun a w ht hm => ?_
  refine wp_seq ?_
  refine wpr ?_
  refine wpl rfl rfl ht (ev_assign ht rfl rfl) ?_
  intro a ht
  refine wpList_nil ?_
  refine then_normal ?_
  refine wp_seq ?_
  refine wp_block ?_
  refine wp_seq ?_
  refine wpr ?_
  refine wpl rfl rfl ht (ev_move ht rfl rfl) ?_
  intro a ht
  obtain ⟨t1, et1, H⟩ := bind_get H
  have hcall := impl_Colouring_isColouring.calls k _ _ b x _ ((fun (hq : Ms _ _ _ ([.blk b 28 (Col.cells x)] ++ [.blk b2 25 [.slice A m c], .blk b3 70 [.pointer (some ⟨b, 0, none⟩)], .blk b4 49 [.func (.func 33) #[] #[]]]) _ _) => hq.lend (φp := []) (allRO_nil)) (hm.pick (own' := [.blk b 28 (Col.cells x)] ++ [.blk b2 25 [.slice A m c], .blk b3 70 [.pointer (some ⟨b, 0, none⟩)], .blk b4 49 [.func (.func 33) #[] #[]]]) [0, 1, 2, 3] rfl (by decide))) et1
  refine wpl_call _ rfl rfl ht rfl rfl rfl rfl can_81 hcall ?_
  clear hcall
  rintro _ w ⟨rfl, hpost⟩ a ht
  replace hm := (hm.pick (own' := [.blk b 28 (Col.cells x)] ++ [.blk b2 25 [.slice A m c], .blk b3 70 [.pointer (some ⟨b, 0, none⟩)], .blk b4 49 [.func (.func 33) #[] #[]]]) [0, 1, 2, 3] rfl (by decide)).backL hpost
  clear hpost
  refine wpl rfl rfl ht (ev_not ht rfl rfl) ?_
  intro a ht
  refine wpl rfl rfl ht (ev_assign ht rfl rfl) ?_
  intro a ht
  refine wpList_nil ?_
  refine then_normal ?_
  by_cases h2 : t1 = true
  · replace H := ite_yes h2 H
    refine wpc_no ht rfl (not_t h2) ?_
    refine wp_seq ?_
    refine wpr ?_
    refine wpl rfl rfl ht (ev_move ht rfl rfl) ?_
    intro a ht
    obtain ⟨t3, et3, H⟩ := bind_get H
    have hcall := impl_Colouring_sizesCode_1__always.calls k _ _ b2 A c m b3 b b4 right x _ ((fun (hq : Ms _ _ _ ([.blk b2 25 [.slice A m c], .blk b3 70 [.pointer (some ⟨b, 0, none⟩)], .blk b 28 (Col.cells x), .blk b4 49 [.func (.func 33) #[] #[]]] ++ []) _ _) => hq.lend (φp := [IntsAt A c m right]) (allRO_cons (hq.lendFact 0 rfl) (allRO_nil))) (hm.pick (own' := [.blk b2 25 [.slice A m c], .blk b3 70 [.pointer (some ⟨b, 0, none⟩)], .blk b 28 (Col.cells x), .blk b4 49 [.func (.func 33) #[] #[]]] ++ []) [1, 2, 0, 3] rfl (by decide))) et3
    refine wpl_call _ rfl rfl ht rfl rfl rfl rfl can_71 hcall ?_
    clear hcall
    rintro _ w ⟨rfl, hpost⟩ a ht
    replace hm := (hm.pick (own' := [.blk b2 25 [.slice A m c], .blk b3 70 [.pointer (some ⟨b, 0, none⟩)], .blk b 28 (Col.cells x), .blk b4 49 [.func (.func 33) #[] #[]]] ++ []) [1, 2, 0, 3] rfl (by decide)).backL hpost
    clear hpost
    refine wpl rfl rfl ht (ev_not ht rfl rfl) ?_
    intro a ht
    refine wpl rfl rfl ht (ev_assign ht rfl rfl) ?_
    intro a ht
    refine wpList_nil ?_
    refine then_normal ?_
    by_cases h4 : t3 = true
    · replace H := ite_yes h4 H
      refine wpc_no ht rfl (not_t h4) ?_
      refine wp_skip ?_
      refine blk_normal ?_
      refine then_normal ?_
      refine wp_seq ?_
      refine wpr ?_
      refine wpl rfl rfl ht (ev_assign ht rfl rfl) ?_
      intro a ht
      refine wpList_nil ?_
      refine then_normal ?_
      refine wp_ret ?_
      have hres := ht.res (P := Try.prog) (w := w) (rs := [.tmp 4]) (vs := [.int .i64 0]) (.tmp rfl .nil)
      obtain rfl := Option.some.inj H
      exact leave ht rfl hres ⟨rfl, ((hm.pick [2, 0, 1, 3] rfl (by decide)).pickφ [] rfl).post fun _ h => h⟩
    · replace H := ite_no h4 H
      refine wpc_yes ht rfl (not_f (Bool.eq_false_iff.mpr h4)) ?_
      refine wp_seq ?_
      refine wpr ?_
      refine wpl rfl rfl ht (ev_assign ht rfl rfl) ?_
      intro a ht
      refine wpList_nil ?_
      refine then_normal ?_
      refine wp_ret ?_
      refine blk_ret ?_
      refine then_ret ?_
      have hres := ht.res (P := Try.prog) (w := w) (rs := [.tmp 4]) (vs := [.int .i64 2]) (.tmp rfl .nil)
      obtain rfl := Option.some.inj H
      exact leave ht rfl hres ⟨rfl, ((hm.pick [2, 0, 1, 3] rfl (by decide)).pickφ [] rfl).post fun _ h => h⟩
  · replace H := ite_no h2 H
    refine wpc_yes ht rfl (not_f (Bool.eq_false_iff.mpr h2)) ?_
    refine wp_seq ?_
    refine wpr ?_
    refine wpl rfl rfl ht (ev_assign ht rfl rfl) ?_
    intro a ht
    refine wpList_nil ?_
    refine then_normal ?_
    refine wp_ret ?_
    refine blk_ret ?_
    refine then_ret ?_
    have hres := ht.res (P := Try.prog) (w := w) (rs := [.tmp 4]) (vs := [.int .i64 1]) (.tmp rfl .nil)
    obtain rfl := Option.some.inj H
    exact leave ht rfl hres ⟨rfl, ((hm.pick [0, 1, 2, 3] rfl (by decide)).pickφ [] rfl).post fun _ h => h⟩

/-! ### impl_Colouring_sizesCode__always: function 43 ((*loop.example/g01362/impl.Colouring).sizesCode) -/
def impl_Colouring_sizesCode__always.f (k : Nat) (x : Col) (sizes : List Int) : Option (Int) := (impl_Colouring_code__Colouring_sizesCode_1__always.f k x sizes).bind fun t4 => some t4
set_option maxRecDepth 100000 in
set_option maxHeartbeats 1000000 in
theorem impl_Colouring_sizesCode__always.calls (k : Nat) (X : List Nat) (w0 : World) (b : Nat) (A : Option Addr) (c : Nat) (m : Nat) (x : Col) (sizes : List Int) (r : Int)
    (hp : Pre X w0 [.blk b 28 (Col.cells x)] [IntsAt A c m sizes]) (H : impl_Colouring_sizesCode__always.f k x sizes = some r) :
    Calls Try.prog 43 [.pointer (some ⟨b, 0, none⟩), .slice A m c, .func (.func 33) #[] #[]].toArray w0 (Ret fun v w => v = .int .i64 r ∧ Post X (fps [.blk b 28 (Col.cells x)]) w0 [.blk b 28 (Col.cells x)] [] w) := by
  unfold impl_Colouring_sizesCode__always.f at H
  refine enterM (n := 10) hp Try.func43 rfl rfl (Nat.le_of_ble_eq_true rfl) fun a w ht hm => ?_
  refine wp_seq ?_
  refine wpr ?_
  refine wpl_box rfl rfl ht hm rfl rfl rfl ?_
  intro b1 a ht w hm
  refine wpl_box rfl rfl ht hm rfl rfl rfl ?_
  intro b2 a ht w hm
  refine wpl_box rfl rfl ht hm rfl rfl rfl ?_
  intro b3 a ht w hm
  refine wpl rfl rfl ht (ev_assign ht rfl rfl) ?_
  intro a ht
  refine wpList_nil ?_
  refine then_normal ?_
  refine wp_seq ?_
  refine wpr ?_
  refine wpl rfl rfl ht (ev_load ht rfl rfl sc_70 (hm.blk_cell 2 rfl rfl)) ?_
  intro a ht
  refine wpl rfl rfl ht (ev_makeFunc ht rfl rfl rfl) ?_
  intro a ht
  obtain ⟨t4, et4, H⟩ := bind_get H
  have hcall := impl_Colouring_code__Colouring_sizesCode_1__always.calls k _ _ b b2 A c m b1 b3 x sizes _ ((fun (hq : Ms _ _ _ ([.blk b 28 (Col.cells x), .blk b2 25 [.slice A m c], .blk b1 70 [.pointer (some ⟨b, 0, none⟩)], .blk b3 49 [.func (.func 33) #[] #[]]] ++ []) _ _) => hq.lend (φp := [IntsAt A c m sizes]) (allRO_cons (hq.lendFact 0 rfl) (allRO_nil))) (hm.pick (own' := [.blk b 28 (Col.cells x), .blk b2 25 [.slice A m c], .blk b1 70 [.pointer (some ⟨b, 0, none⟩)], .blk b3 49 [.func (.func 33) #[] #[]]] ++ []) [3, 1, 2, 0] rfl (by decide))) et4
  refine wpl_call _ rfl rfl ht rfl rfl rfl rfl can_70 hcall ?_
  clear hcall
  rintro _ w ⟨rfl, hpost⟩ a ht
  replace hm := (hm.pick (own' := [.blk b 28 (Col.cells x), .blk b2 25 [.slice A m c], .blk b1 70 [.pointer (some ⟨b, 0, none⟩)], .blk b3 49 [.func (.func 33) #[] #[]]] ++ []) [3, 1, 2, 0] rfl (by decide)).backL hpost
  clear hpost
  refine wpl rfl rfl ht (ev_assign ht rfl rfl) ?_
  intro a ht
  refine wpList_nil ?_
  refine then_normal ?_
  refine wp_ret ?_
  have hres := ht.res (P := Try.prog) (w := w) (rs := [.tmp 6]) (vs := [.int .i64 t4]) (.tmp rfl .nil)
  obtain rfl := Option.some.inj H
  exact leave ht rfl hres ⟨rfl, ((hm.pick [0] rfl (by decide)).pickφ [] rfl).post fun _ h => h⟩

/-! ### impl_Colouring_firstOf_1: function 80 ((*loop.example/g01362/impl.Colouring).firstOf$1) -/
def impl_Colouring_firstOf_1.f (list : List Int) (x : Int) (x2 : List Int) : Option (Bool × List Int) := (impl_size_int64.f list).bind fun t2 => if t2 < x then (some (true, x2)) else (some (false, list))
set_option maxRecDepth 100000 in
set_option maxHeartbeats 1000000 in
theorem impl_Colouring_firstOf_1.calls (X : List Nat) (w0 : World) (B : Nat) (A : Option Addr) (c : Nat) (m : Nat) (b : Nat) (b2 : Nat) (A2 : Option Addr) (c2 : Nat) (m2 : Nat) (list : List Int) (x : Int) (x2 : List Int) (r : Bool × List Int)
    (hp : Pre X w0 [.blk b 2 [.int .i64 x], .blk b2 25 [.slice A2 m2 c2]] [OwnAt B 2 A c m list, OwnAt B 2 A2 c2 m2 x2]) (hB : B ≤ w0.heap.size) (H : impl_Colouring_firstOf_1.f list x x2 = some r) :
    Calls Try.prog 80 [.slice A m c, .pointer (some ⟨b, 0, none⟩), .pointer (some ⟨b2, 0, none⟩)].toArray w0 (Ret fun v w => ∃ (B_1_0 : Option Addr) (d_1_0 : Nat) (m_1_0 : Nat), v = .bool r.1 ∧ Post X (fps [.blk b 2 [.int .i64 x], .blk b2 25 [.slice A2 m2 c2]]) w0 [.blk b 2 [.int .i64 x], .blk b2 25 [.slice B_1_0 m_1_0 d_1_0]] [OwnAt B 2 B_1_0 d_1_0 m_1_0 r.2] w) := by
  unfold impl_Colouring_firstOf_1.f at H
  refine enterM (n := 10) hp Try.func80 rfl rfl (Nat.le_of_ble_eq_true rfl) fun a w ht hm => ?_
  refine wp_seq ?_
  refine wpr ?_
  refine wpl rfl rfl ht (ev_assign ht rfl rfl) ?_
  intro a ht
  refine wpList_nil ?_
  refine then_normal ?_
  refine wp_seq ?_
  refine wp_seq ?_
  refine wph_begin (fun w => Ms X (fps [.blk b 2 [.int .i64 x], .blk b2 25 [.slice A2 m2 c2]]) w0 [.blk b 2 [.int .i64 x], .blk b2 25 [.slice A2 m2 c2]] [OwnAt B 2 A c m list, OwnAt B 2 A2 c2 m2 x2] w) mixed ?_
  replace hm := hm.drew
  have hS : Ms X (fps [.blk b 2 [.int .i64 x], .blk b2 25 [.slice A2 m2 c2]]) w0 [.blk b 2 [.int .i64 x], .blk b2 25 [.slice A2 m2 c2]] [OwnAt B 2 A c m list, OwnAt B 2 A2 c2 m2 x2] w.drew := (hm.pick [0, 1] rfl (by decide)).pickφ [0, 1] rfl
  generalize w.drew = w at hm hS ⊢
  refine wph_take (i := 0) rfl (by kernel_rfl) (by kernel_rfl) (by kernel_rfl) (fun _ _ _ h => h) rfl ht hS (wanted_plain rfl) (fun w hm => ev_move ht rfl rfl) ?_
  intro a ht
  refine wph_take (i := 2) rfl (by kernel_rfl) (by kernel_rfl) (by kernel_rfl) (fun _ _ _ h => h) rfl ht hS (wanted_plain rfl) (fun w hm => ev_load ht rfl rfl sc_2 (hm.blk_cell 0 rfl rfl)) ?_
  intro a ht
  refine wph_one (i := 1) (by kernel_rfl) (wph_step rfl ?_)
  replace hm : Ms _ _ _ _ (IntsAt A c m list :: _) w := hm.addφ ((hm.ro (φ := OwnAt B 2 A c m list) 0 rfl).mono fun w h => OwnAt.row h)
  obtain ⟨t2, et2, H⟩ := bind_get H
  have hcall := impl_size_int64.calls _ _ A c m list _ ((fun (hq : Ms _ _ _ ([] ++ [.blk b 2 [.int .i64 x], .blk b2 25 [.slice A2 m2 c2]]) _ _) => hq.lend (φp := [IntsAt A c m list]) (allRO_cons (hq.lendFact 0 rfl) (allRO_nil))) (hm.pick (own' := [] ++ [.blk b 2 [.int .i64 x], .blk b2 25 [.slice A2 m2 c2]]) [0, 1] rfl (by decide))) et2
  refine wpl_call _ rfl rfl ht rfl rfl rfl rfl can_64 hcall ?_
  clear hcall
  rintro _ w ⟨rfl, hpost⟩ a ht
  replace hm := (hm.pick (own' := [] ++ [.blk b 2 [.int .i64 x], .blk b2 25 [.slice A2 m2 c2]]) [0, 1] rfl (by decide)).backL hpost
  clear hpost
  have hS : Ms X (fps [.blk b 2 [.int .i64 x], .blk b2 25 [.slice A2 m2 c2]]) w0 [.blk b 2 [.int .i64 x], .blk b2 25 [.slice A2 m2 c2]] [OwnAt B 2 A c m list, OwnAt B 2 A2 c2 m2 x2] w := (hm.pick [0, 1] rfl (by decide)).pickφ [1, 2] rfl
  refine wpList_nil (qn ⟨hS, ?_⟩)
  refine wph_take (i := 3) rfl (by kernel_rfl) (by kernel_rfl) (by kernel_rfl) (fun _ _ _ h => h) rfl ht hS (wanted_plain rfl) (fun w hm => ev_cmp ht rfl rfl rfl rfl) ?_
  intro a ht
  refine wph_done (by kernel_rfl) ?_
  refine then_normal ?_
  by_cases h3 : t2 < x
  · replace H := ite_yes h3 H
    refine wpc_yes ht rfl (decide_eq_true h3) ?_
    refine wp_seq ?_
    refine wpr ?_
    refine wpl rfl rfl ht (ev_assign ht rfl rfl) ?_
    intro a ht
    refine wpList_nil ?_
    refine then_normal ?_
    refine wp_ret ?_
    refine then_ret ?_
    have hres := ht.res (P := Try.prog) (w := w) (rs := [.tmp 4]) (vs := [.bool true]) (.tmp rfl .nil)
    obtain rfl := Option.some.inj H
    exact leave ht rfl hres ⟨A2, c2, m2, rfl, ((hm.pick [0, 1] rfl (by decide)).pickφ [2] rfl).post fun _ h => h⟩
  · replace H := ite_no h3 H
    refine wpc_no ht rfl (decide_eq_false h3) ?_
    refine wp_skip ?_
    refine then_normal ?_
    refine wp_seq ?_
    refine wpr ?_
    refine wpl rfl rfl ht (ev_move ht rfl rfl) ?_
    intro a ht
    refine wpl_store_blk 1 rfl rfl ht hm rfl rfl rfl sz1_25 rfl rfl rfl ?_
    intro a ht w hm
    refine wpList_nil ?_
    refine then_normal ?_
    refine wp_seq ?_
    refine wpr ?_
    refine wpl rfl rfl ht (ev_assign ht rfl rfl) ?_
    intro a ht
    refine wpList_nil ?_
    refine then_normal ?_
    refine wp_ret ?_
    have hres := ht.res (P := Try.prog) (w := w) (rs := [.tmp 4]) (vs := [.bool false]) (.tmp rfl .nil)
    obtain rfl := Option.some.inj H
    exact leave ht rfl hres ⟨A, c, m, rfl, ((hm.pick [0, 1] rfl (by decide)).pickφ [1] rfl).post fun _ h => h⟩

/-! ### impl_number: function 74 (loop.example/g01362/impl.number) -/
def impl_number.f (i : Int) (j : Int) : Option (Int) := some (w64 ((w64 (Int.tdiv (w64 ((max i j) * (w64 ((max i j) - 1)))) 2)) + (min i j)))
set_option maxRecDepth 100000 in
set_option maxHeartbeats 1000000 in
theorem impl_number.calls (X : List Nat) (w0 : World)  (i : Int) (j : Int) (r : Int)
    (hp : Pre X w0 [] []) (H : impl_number.f i j = some r) :
    Calls Try.prog 74 [.int .i64 i, .int .i64 j].toArray w0 (Ret fun v w => v = .int .i64 r ∧ Post X (fps []) w0 [] [] w) := by
  unfold impl_number.f at H
  refine enterM (n := 18) hp Try.func74 rfl rfl (Nat.le_of_ble_eq_true rfl) fun a w ht hm => ?_
  refine wp_seq ?_
  refine wpr ?_
  refine wpl rfl rfl ht (ev_assign ht rfl rfl) ?_
  intro a ht
  refine wpList_nil ?_
  refine then_normal ?_
  refine wp_seq ?_
  refine wpr ?_
  refine wpl rfl rfl ht (ev_move ht rfl rfl) ?_
  intro a ht
  refine wpl rfl rfl ht (ev_move ht rfl rfl) ?_
  intro a ht
  refine wpl rfl rfl ht (ev_min ht rfl rfl rfl) ?_
  intro a ht
  refine wpl rfl rfl ht (ev_move ht rfl rfl) ?_
  intro a ht
  refine wpl rfl rfl ht (ev_move ht rfl rfl) ?_
  intro a ht
  refine wpl rfl rfl ht (ev_max ht rfl rfl rfl) ?_
  intro a ht
  refine wpl rfl rfl ht (ev_assign ht rfl rfl) ?_
  intro a ht
  refine wpl rfl rfl ht (ev_assign ht rfl rfl) ?_
  intro a ht
  refine wpList_nil ?_
  refine then_normal ?_
  refine wp_seq ?_
  refine wpr ?_
  refine wpl rfl rfl ht (ev_move ht rfl rfl) ?_
  intro a ht
  refine wpl rfl rfl ht (ev_move ht rfl rfl) ?_
  intro a ht
  refine wpl rfl rfl ht (ev_arith ht rfl rfl rfl rfl) ?_
  intro a ht
  refine wpl rfl rfl ht (ev_arith ht rfl rfl rfl rfl) ?_
  intro a ht
  refine wpl rfl rfl ht (ev_quo ht rfl rfl rfl (by decide)) ?_
  intro a ht
  refine wpl rfl rfl ht (ev_move ht rfl rfl) ?_
  intro a ht
  refine wpl rfl rfl ht (ev_arith ht rfl rfl rfl rfl) ?_
  intro a ht
  refine wpl rfl rfl ht (ev_assign ht rfl rfl) ?_
  intro a ht
  refine wpList_nil ?_
  refine then_normal ?_
  refine wp_ret ?_
  have hres := ht.res (P := Try.prog) (w := w) (rs := [.tmp 4]) (vs := [.int .i64 (w64 ((w64 (Int.tdiv (w64 ((max i j) * (w64 ((max i j) - 1)))) 2)) + (min i j)))]) (.tmp rfl .nil)
  obtain rfl := Option.some.inj H
  exact leave ht rfl hres ⟨rfl, ((hm.pick [] rfl (by decide)).pickφ [] rfl).post fun _ h => h⟩

/-! ### impl_Colouring_at: function 51 ((*loop.example/g01362/impl.Colouring).at) -/
def impl_Colouring_at.f (x : Col) (i : Int) (j : Int) : Option (Int) := (impl_number.f i j).bind fun t1 => (getB 136 x.e t1).bind fun t2 => some (w64 t2)
set_option maxRecDepth 100000 in
set_option maxHeartbeats 1000000 in
theorem impl_Colouring_at.calls (X : List Nat) (w0 : World) (b : Nat) (x : Col) (i : Int) (j : Int) (r : Int)
    (hp : Pre X w0 [.blk b 28 (Col.cells x)] []) (H : impl_Colouring_at.f x i j = some r) :
    Calls Try.prog 51 [.pointer (some ⟨b, 0, none⟩), .int .i64 i, .int .i64 j].toArray w0 (Ret fun v w => v = .int .i64 r ∧ Post X (fps [.blk b 28 (Col.cells x)]) w0 [.blk b 28 (Col.cells x)] [] w) := by
  unfold impl_Colouring_at.f at H
  refine enterM (n := 16) hp Try.func51 rfl rfl (Nat.le_of_ble_eq_true rfl) fun a w ht hm => ?_
  refine wp_seq ?_
  refine wpr ?_
  refine wpl rfl rfl ht (ev_assign ht rfl rfl) ?_
  intro a ht
  refine wpList_nil ?_
  refine then_normal ?_
  refine wp_seq ?_
  refine wph_begin (fun w => Ms X (fps [.blk b 28 (Col.cells x)]) w0 [.blk b 28 (Col.cells x)] [] w) mixed ?_
  replace hm := hm.drew
  have hS : Ms X (fps [.blk b 28 (Col.cells x)]) w0 [.blk b 28 (Col.cells x)] [] w.drew := (hm.pick [0] rfl (by decide)).pickφ [] rfl
  generalize w.drew = w at hm hS ⊢
  refine wph_take (i := 0) rfl (by kernel_rfl) (by kernel_rfl) (by kernel_rfl) (fun _ _ _ h => h) rfl ht hS (wanted_plain rfl) (fun w hm => ev_move ht rfl rfl) ?_
  intro a ht
  refine wph_take (i := 1) rfl (by kernel_rfl) (by kernel_rfl) (by kernel_rfl) (fun _ _ _ h => h) rfl ht hS (wanted_plain rfl) (fun w hm => ev_move ht rfl rfl) ?_
  intro a ht
  refine wph_take (i := 2) rfl (by kernel_rfl) (by kernel_rfl) (by kernel_rfl) (fun _ _ _ h => h) rfl ht hS (wanted_plain rfl) (fun w hm => ev_move ht rfl rfl) ?_
  intro a ht
  refine wph_take (i := 4) rfl (by kernel_rfl) (by kernel_rfl) (by kernel_rfl) (fun _ _ _ h => h) rfl ht hS (wanted_plain rfl) (fun w hm => ev_nilCheck ht rfl rfl) ?_
  intro a ht
  refine wph_take (i := 5) rfl (by kernel_rfl) (by kernel_rfl) (by kernel_rfl) (fun _ _ _ h => h) rfl ht hS (wanted_plain rfl) (fun w hm => ev_fieldAddr ht rfl rfl fo_28_2) ?_
  intro a ht
  refine wph_one (i := 3) (by kernel_rfl) (wph_step rfl ?_)
  obtain ⟨t1, et1, H⟩ := bind_get H
  have hcall := impl_number.calls _ _ i j _ ((fun (hq : Ms _ _ _ ([] ++ [.blk b 28 (Col.cells x)]) _ _) => hq.lend (φp := []) (allRO_nil)) (hm.pick (own' := [] ++ [.blk b 28 (Col.cells x)]) [0] rfl (by decide))) et1
  refine wpl_call _ rfl rfl ht rfl rfl rfl rfl can_74 hcall ?_
  clear hcall
  rintro _ w ⟨rfl, hpost⟩ a ht
  replace hm := (hm.pick (own' := [] ++ [.blk b 28 (Col.cells x)]) [0] rfl (by decide)).backL hpost
  clear hpost
  have hS : Ms X (fps [.blk b 28 (Col.cells x)]) w0 [.blk b 28 (Col.cells x)] [] w := (hm.pick [0] rfl (by decide)).pickφ [] rfl
  refine wpList_nil (qn ⟨hS, ?_⟩)
  obtain ⟨t2, et2, H⟩ := bind_get H
  refine wph_take (i := 6) rfl (by kernel_rfl) (by kernel_rfl) (by kernel_rfl) (fun _ _ _ h => h) rfl ht hS (wanted_plain rfl) (fun w hm => ev_indexAddr_arr ht rfl rfl rfl ar_22 (getB_lo et2) (getB_hi et2)) ?_
  intro a ht
  refine wph_take (i := 7) rfl (by kernel_rfl) (by kernel_rfl) (by kernel_rfl) (fun _ _ _ h => h) rfl ht hS (wanted_plain rfl) (fun w hm => ev_load ht rfl rfl sc_5 (hm.blk_cell 0 rfl (Col.get et2))) ?_
  intro a ht
  refine wph_take (i := 8) rfl (by kernel_rfl) (by kernel_rfl) (by kernel_rfl) (fun _ _ _ h => h) rfl ht hS (wanted_plain rfl) (fun w hm => ev_convert ht rfl rfl und_5 und_2) ?_
  intro a ht
  refine wph_take (i := 9) rfl (by kernel_rfl) (by kernel_rfl) (by kernel_rfl) (fun _ _ _ h => h) rfl ht hS (wanted_plain rfl) (fun w hm => ev_assign ht rfl rfl) ?_
  intro a ht
  refine wph_done (by kernel_rfl) ?_
  refine then_normal ?_
  refine wp_ret ?_
  have hres := ht.res (P := Try.prog) (w := w) (rs := [.tmp 6]) (vs := [.int .i64 (w64 t2)]) (.tmp rfl .nil)
  obtain rfl := Option.some.inj H
  exact leave ht rfl hres ⟨rfl, ((hm.pick [0] rfl (by decide)).pickφ [] rfl).post fun _ h => h⟩

/-! ### impl_Colouring_joins: function 50 ((*loop.example/g01362/impl.Colouring).joins) -/
def impl_Colouring_joins.f (x : Col) (i : Int) (j : Int) (c : Int) : Option (Bool) := if i ≠ j then ((impl_Colouring_at.f x i j).bind fun t2 => some (decide (t2 = c))) else (some false)
set_option maxRecDepth 100000 in
set_option maxHeartbeats 1000000 in
theorem impl_Colouring_joins.calls (X : List Nat) (w0 : World) (b : Nat) (x : Col) (i : Int) (j : Int) (c : Int) (r : Bool)
    (hp : Pre X w0 [.blk b 28 (Col.cells x)] []) (H : impl_Colouring_joins.f x i j c = some r) :
    Calls Try.prog 50 [.pointer (some ⟨b, 0, none⟩), .int .i64 i, .int .i64 j, .int .i64 c].toArray w0 (Ret fun v w => v = .bool r ∧ Post X (fps [.blk b 28 (Col.cells x)]) w0 [.blk b 28 (Col.cells x)] [] w) := by
  unfold impl_Colouring_joins.f at H
  refine enterM (n := 20) hp Try.func50 rfl rfl (Nat.le_of_ble_eq_true rfl) fun a w ht hm => ?_
  refine wp_seq ?_
  refine wpr ?_
  refine wpl rfl rfl ht (ev_assign ht rfl rfl) ?_
  intro a ht
  refine wpList_nil ?_
  refine then_normal ?_
  refine wp_seq ?_
  refine wpr ?_
  refine wpl rfl rfl ht (ev_move ht rfl rfl) ?_
  intro a ht
  refine wpl rfl rfl ht (ev_move ht rfl rfl) ?_
  intro a ht
  refine wpl rfl rfl ht (ev_cmp ht rfl rfl rfl rfl) ?_
  intro a ht
  refine wpl rfl rfl ht (ev_move ht rfl rfl) ?_
  intro a ht
  by_cases h1 : i ≠ j
  · replace H := ite_yes h1 H
    refine wpl_yes rfl ht rfl ((decide_eq_true h1)) ?_
    refine wpl rfl rfl ht (ev_move ht rfl rfl) ?_
    intro a ht
    refine wpl_yes rfl ht rfl ((decide_eq_true h1)) ?_
    refine wpl rfl rfl ht (ev_move ht rfl rfl) ?_
    intro a ht
    refine wpl_yes rfl ht rfl ((decide_eq_true h1)) ?_
    refine wpl rfl rfl ht (ev_move ht rfl rfl) ?_
    intro a ht
    refine wpl_yes rfl ht rfl ((decide_eq_true h1)) ?_
    obtain ⟨t2, et2, H⟩ := bind_get H
    have hcall := impl_Colouring_at.calls _ _ b x i j _ ((fun (hq : Ms _ _ _ ([.blk b 28 (Col.cells x)] ++ []) _ _) => hq.lend (φp := []) (allRO_nil)) (hm.pick (own' := [.blk b 28 (Col.cells x)] ++ []) [0] rfl (by decide))) et2
    refine wpl_call _ rfl rfl ht rfl rfl rfl rfl can_51 hcall ?_
    clear hcall
    rintro _ w ⟨rfl, hpost⟩ a ht
    replace hm := (hm.pick (own' := [.blk b 28 (Col.cells x)] ++ []) [0] rfl (by decide)).backL hpost
    clear hpost
    refine wpl_yes rfl ht rfl ((decide_eq_true h1)) ?_
    refine wpl rfl rfl ht (ev_move ht rfl rfl) ?_
    intro a ht
    refine wpl_yes rfl ht rfl ((decide_eq_true h1)) ?_
    refine wpl rfl rfl ht (ev_cmp ht rfl rfl rfl rfl) ?_
    intro a ht
    refine wpl rfl rfl ht (ev_pick_yes ht rfl rfl (decide_eq_true h1) rfl) ?_
    intro a ht
    refine wpl rfl rfl ht (ev_assign ht rfl rfl) ?_
    intro a ht
    refine wpList_nil ?_
    refine then_normal ?_
    refine wp_ret ?_
    have hres := ht.res (P := Try.prog) (w := w) (rs := [.tmp 8]) (vs := [.bool (decide (t2 = c))]) (.tmp rfl .nil)
    obtain rfl := Option.some.inj H
    exact leave ht rfl hres ⟨rfl, ((hm.pick [0] rfl (by decide)).pickφ [] rfl).post fun _ h => h⟩
  · replace H := ite_no h1 H
    refine wpl_no rfl rfl ht rfl (by rw [(decide_eq_false h1)]; decide) ?_
    intro a ht
    refine wpl_no rfl rfl ht rfl (by rw [(decide_eq_false h1)]; decide) ?_
    intro a ht
    refine wpl_no rfl rfl ht rfl (by rw [(decide_eq_false h1)]; decide) ?_
    intro a ht
    refine wpl_no rfl rfl ht rfl (by rw [(decide_eq_false h1)]; decide) ?_
    intro a ht
    refine wpl_no rfl rfl ht rfl (by rw [(decide_eq_false h1)]; decide) ?_
    intro a ht
    refine wpl_no rfl rfl ht rfl (by rw [(decide_eq_false h1)]; decide) ?_
    intro a ht
    refine wpl rfl rfl ht (ev_pick_no ht rfl rfl (decide_eq_false h1) rfl) ?_
    intro a ht
    refine wpl rfl rfl ht (ev_assign ht rfl rfl) ?_
    intro a ht
    refine wpList_nil ?_
    refine then_normal ?_
    refine wp_ret ?_
    have hres := ht.res (P := Try.prog) (w := w) (rs := [.tmp 8]) (vs := [.bool false]) (.tmp rfl .nil)
    obtain rfl := Option.some.inj H
    exact leave ht rfl hres ⟨rfl, ((hm.pick [0] rfl (by decide)).pickφ [] rfl).post fun _ h => h⟩

/-! ### impl_Colouring_goesWith_1: function 84 ((*loop.example/g01362/impl.Colouring).goesWith$1) -/
def impl_Colouring_goesWith_1.f (i : Int) (x : Col) (x2 : Int) (x3 : Int) : Option (Bool) := (impl_Colouring_joins.f x i x2 x3).bind fun t1 => some !t1
set_option maxRecDepth 100000 in
set_option maxHeartbeats 1000000 in
theorem impl_Colouring_goesWith_1.calls (X : List Nat) (w0 : World) (b : Nat) (b2 : Nat) (b3 : Nat) (b4 : Nat) (i : Int) (x : Col) (x2 : Int) (x3 : Int) (r : Bool)
    (hp : Pre X w0 [.blk b 70 [.pointer (some ⟨b2, 0, none⟩)], .blk b2 28 (Col.cells x), .blk b3 2 [.int .i64 x2], .blk b4 2 [.int .i64 x3]] []) (H : impl_Colouring_goesWith_1.f i x x2 x3 = some r) :
    Calls Try.prog 84 [.int .i64 i, .pointer (some ⟨b, 0, none⟩), .pointer (some ⟨b3, 0, none⟩), .pointer (some ⟨b4, 0, none⟩)].toArray w0 (Ret fun v w => v = .bool r ∧ Post X (fps [.blk b 70 [.pointer (some ⟨b2, 0, none⟩)], .blk b2 28 (Col.cells x), .blk b3 2 [.int .i64 x2], .blk b4 2 [.int .i64 x3]]) w0 [.blk b 70 [.pointer (some ⟨b2, 0, none⟩)], .blk b2 28 (Col.cells x), .blk b3 2 [.int .i64 x2], .blk b4 2 [.int .i64 x3]] [] w) := by
  unfold impl_Colouring_goesWith_1.f at H
  refine enterM (n := 12) hp Try.func84 rfl rfl (Nat.le_of_ble_eq_true rfl) fun a w ht hm => ?_
  refine wp_seq ?_
  refine wpr ?_
  refine wpl rfl rfl ht (ev_assign ht rfl rfl) ?_
  intro a ht
  refine wpList_nil ?_
  refine then_normal ?_
  refine wp_seq ?_
  refine wpr ?_
  refine wpl rfl rfl ht (ev_load ht rfl rfl sc_70 (hm.blk_cell 0 rfl rfl)) ?_
  intro a ht
  refine wpl rfl rfl ht (ev_move ht rfl rfl) ?_
  intro a ht
  refine wpl rfl rfl ht (ev_load ht rfl rfl sc_2 (hm.blk_cell 2 rfl rfl)) ?_
  intro a ht
  refine wpl rfl rfl ht (ev_load ht rfl rfl sc_2 (hm.blk_cell 3 rfl rfl)) ?_
  intro a ht
  obtain ⟨t1, et1, H⟩ := bind_get H
  have hcall := impl_Colouring_joins.calls _ _ b2 x i x2 x3 _ ((fun (hq : Ms _ _ _ ([.blk b2 28 (Col.cells x)] ++ [.blk b 70 [.pointer (some ⟨b2, 0, none⟩)], .blk b3 2 [.int .i64 x2], .blk b4 2 [.int .i64 x3]]) _ _) => hq.lend (φp := []) (allRO_nil)) (hm.pick (own' := [.blk b2 28 (Col.cells x)] ++ [.blk b 70 [.pointer (some ⟨b2, 0, none⟩)], .blk b3 2 [.int .i64 x2], .blk b4 2 [.int .i64 x3]]) [1, 0, 2, 3] rfl (by decide))) et1
  refine wpl_call _ rfl rfl ht rfl rfl rfl rfl can_50 hcall ?_
  clear hcall
  rintro _ w ⟨rfl, hpost⟩ a ht
  replace hm := (hm.pick (own' := [.blk b2 28 (Col.cells x)] ++ [.blk b 70 [.pointer (some ⟨b2, 0, none⟩)], .blk b3 2 [.int .i64 x2], .blk b4 2 [.int .i64 x3]]) [1, 0, 2, 3] rfl (by decide)).backL hpost
  clear hpost
  refine wpl rfl rfl ht (ev_not ht rfl rfl) ?_
  intro a ht
  refine wpl rfl rfl ht (ev_assign ht rfl rfl) ?_
  intro a ht
  refine wpList_nil ?_
  refine then_normal ?_
  refine wp_ret ?_
  have hres := ht.res (P := Try.prog) (w := w) (rs := [.tmp 5]) (vs := [.bool !t1]) (.tmp rfl .nil)
  obtain rfl := Option.some.inj H
  exact leave ht rfl hres ⟨rfl, ((hm.pick [1, 0, 2, 3] rfl (by decide)).pickφ [] rfl).post fun _ h => h⟩

/-! ### slices_IndexFunc_int64_int64__Colouring_goesWith_1: function 78 (slices.IndexFunc[[]int64,int64]) -/
def slices_IndexFunc_int64_int64__Colouring_goesWith_1.l0 : Nat → List Int → Col → Int → Int → Int → Option (Int)
  | 0, _, _, _, _, _ => none
  | q1 + 1, s, f, f2, f3, xs0_1 => if xs0_1 < (s.length : Int) then ((getI s xs0_1).bind fun t3 => (impl_Colouring_goesWith_1.f t3 f f2 f3).bind fun t4 => if t4 = true then (some xs0_1) else (slices_IndexFunc_int64_int64__Colouring_goesWith_1.l0 q1 s f f2 f3 (w64 (xs0_1 + 1)))) else (some (-1))
def slices_IndexFunc_int64_int64__Colouring_goesWith_1.f (k : Nat) (s : List Int) (f : Col) (f2 : Int) (f3 : Int) : Option (Int) := slices_IndexFunc_int64_int64__Colouring_goesWith_1.l0 k s f f2 f3 0
set_option maxRecDepth 100000 in
set_option maxHeartbeats 1000000 in
theorem slices_IndexFunc_int64_int64__Colouring_goesWith_1.calls (k : Nat) (X : List Nat) (w0 : World) (A : Option Addr) (c : Nat) (m : Nat) (b : Nat) (b2 : Nat) (b3 : Nat) (b4 : Nat) (s : List Int) (f : Col) (f2 : Int) (f3 : Int) (r : Int)
    (hp : Pre X w0 [.blk b 70 [.pointer (some ⟨b2, 0, none⟩)], .blk b2 28 (Col.cells f), .blk b3 2 [.int .i64 f2], .blk b4 2 [.int .i64 f3]] [IntsAt A c m s]) (H : slices_IndexFunc_int64_int64__Colouring_goesWith_1.f k s f f2 f3 = some r) :
    Calls Try.prog 78 [.slice A m c, .func (.func 84) [].toArray [.pointer (some ⟨b, 0, none⟩), .pointer (some ⟨b3, 0, none⟩), .pointer (some ⟨b4, 0, none⟩)].toArray].toArray w0 (Ret fun v w => v = .int .i64 r ∧ Post X (fps [.blk b 70 [.pointer (some ⟨b2, 0, none⟩)], .blk b2 28 (Col.cells f), .blk b3 2 [.int .i64 f2], .blk b4 2 [.int .i64 f3]]) w0 [.blk b 70 [.pointer (some ⟨b2, 0, none⟩)], .blk b2 28 (Col.cells f), .blk b3 2 [.int .i64 f2], .blk b4 2 [.int .i64 f3]] [] w) := by
  unfold slices_IndexFunc_int64_int64__Colouring_goesWith_1.f at H
  refine enterM (n := 19) hp Try.func78 rfl rfl (Nat.le_of_ble_eq_true rfl) fun a w ht hm => ?_
  refine wp_seq ?_
  refine wpr ?_
  refine wpl rfl rfl ht (ev_assign ht rfl rfl) ?_
  intro a ht
  refine wpList_nil ?_
  refine then_normal ?_
  refine wp_seq ?_
  refine wp_seq ?_
  refine wpr ?_
  refine wpl rfl rfl ht (ev_move ht rfl rfl) ?_
  intro a ht
  refine wpl rfl rfl ht (ev_len_of ht rfl rfl und_25 (hm.fact (φ := IntsAt A c m s) 0 rfl)) ?_
  intro a ht
  refine wpl rfl rfl ht (ev_move ht rfl rfl) ?_
  intro a ht
  refine wpList_nil ?_
  refine then_normal ?_
  refine wp_block ?_
  refine wpLoop (fun q a w => ∃ (xs0_1 : Int), slices_IndexFunc_int64_int64__Colouring_goesWith_1.l0 q s f f2 f3 xs0_1 = some r ∧ q ≤ k ∧ Tm 19 [(0, .slice A m c), (1, .func (.func 84) [].toArray [.pointer (some ⟨b, 0, none⟩), .pointer (some ⟨b3, 0, none⟩), .pointer (some ⟨b4, 0, none⟩)].toArray), (4, .int .i64 0), (7, .int .i64 (s.length : Int)), (8, .int .i64 xs0_1)] a ∧ Ms X (fps [.blk b 70 [.pointer (some ⟨b2, 0, none⟩)], .blk b2 28 (Col.cells f), .blk b3 2 [.int .i64 f2], .blk b4 2 [.int .i64 f3]]) w0 [.blk b 70 [.pointer (some ⟨b2, 0, none⟩)], .blk b2 28 (Col.cells f), .blk b3 2 [.int .i64 f2], .blk b4 2 [.int .i64 f3]] [IntsAt A c m s] w) (k0 := k) ⟨0, H, Nat.le_refl _, ht.sub ⟨rfl, rfl, rfl, rfl, rfl, trivial⟩, (hm.pick [0, 1, 2, 3] rfl (by decide)).pickφ [0] rfl⟩ ?_
  clear H ht hm
  intro q1 a w hJ
  obtain ⟨xs0_1, H, hqq1, ht, hm⟩ := hJ
  cases q1 with
  | zero => cases H
  | succ q1 =>
  rw [slices_IndexFunc_int64_int64__Colouring_goesWith_1.l0] at H
  refine wp_seq ?_
  refine wpr ?_
  refine wpl rfl rfl ht (ev_cmp ht rfl rfl rfl rfl) ?_
  intro a ht
  refine wpList_nil ?_
  refine then_normal ?_
  refine wp_seq ?_
  by_cases h2 : xs0_1 < (s.length : Int)
  · replace H := ite_yes h2 H
    refine wpc_yes ht rfl (decide_eq_true h2) ?_
    refine wp_skip ?_
    refine then_normal ?_
    refine wp_seq ?_
    refine wp_block ?_
    refine wp_seq ?_
    refine wpr ?_
    refine wpl rfl rfl ht (ev_move ht rfl rfl) ?_
    intro a ht
    refine wpl rfl rfl ht (ev_assign ht rfl rfl) ?_
    intro a ht
    refine wpList_nil ?_
    refine then_normal ?_
    refine wp_seq ?_
    refine wpr ?_
    refine wpl rfl rfl ht (ev_move ht rfl rfl) ?_
    intro a ht
    refine wpl rfl rfl ht (ev_move ht rfl rfl) ?_
    intro a ht
    refine wpl rfl rfl ht (ev_move ht rfl rfl) ?_
    intro a ht
    obtain ⟨t3, et3, H⟩ := bind_get H
    refine wpl rfl rfl ht (ev_index_ints ht rfl rfl rfl so_25 (hm.fact (φ := IntsAt A c m s) 0 rfl) et3) ?_
    intro a ht
    refine wpl rfl rfl ht (ev_load ht rfl rfl sc_2 (RowAt.cell (hm.fact (φ := IntsAt A c m s) 0 rfl) (ints_get et3) rfl)) ?_
    intro a ht
    obtain ⟨t4, et4, H⟩ := bind_get H
    have hcall := impl_Colouring_goesWith_1.calls _ _ b b2 b3 b4 t3 f f2 f3 _ ((fun (hq : Ms _ _ _ ([.blk b 70 [.pointer (some ⟨b2, 0, none⟩)], .blk b2 28 (Col.cells f), .blk b3 2 [.int .i64 f2], .blk b4 2 [.int .i64 f3]] ++ []) _ _) => hq.lend (φp := []) (allRO_nil)) (hm.pick (own' := [.blk b 70 [.pointer (some ⟨b2, 0, none⟩)], .blk b2 28 (Col.cells f), .blk b3 2 [.int .i64 f2], .blk b4 2 [.int .i64 f3]] ++ []) [0, 1, 2, 3] rfl (by decide))) et4
    refine wpl_call _ rfl rfl ht rfl rfl rfl rfl can_84 hcall ?_
    clear hcall
    rintro _ w ⟨rfl, hpost⟩ a ht
    replace hm := (hm.pick (own' := [.blk b 70 [.pointer (some ⟨b2, 0, none⟩)], .blk b2 28 (Col.cells f), .blk b3 2 [.int .i64 f2], .blk b4 2 [.int .i64 f3]] ++ []) [0, 1, 2, 3] rfl (by decide)).backL hpost
    clear hpost
    refine wpList_nil ?_
    refine then_normal ?_
    by_cases h5 : t4 = true
    · replace H := ite_yes h5 H
      refine wpc_yes ht rfl h5 ?_
      refine wp_seq ?_
      refine wpr ?_
      refine wpl rfl rfl ht (ev_move ht rfl rfl) ?_
      intro a ht
      refine wpl rfl rfl ht (ev_assign ht rfl rfl) ?_
      intro a ht
      refine wpList_nil ?_
      refine then_normal ?_
      refine wp_ret ?_
      refine blk_ret ?_
      refine then_ret ?_
      refine then_ret ?_
      refine blk_ret ?_
      refine then_ret ?_
      have hres := ht.res (P := Try.prog) (w := w) (rs := [.tmp 4]) (vs := [.int .i64 xs0_1]) (.tmp rfl .nil)
      obtain rfl := Option.some.inj H
      exact leave ht rfl hres ⟨rfl, ((hm.pick [0, 1, 2, 3] rfl (by decide)).pickφ [] rfl).post fun _ h => h⟩
    · replace H := ite_no h5 H
      refine wpc_no ht rfl (Bool.eq_false_iff.mpr h5) ?_
      refine wp_skip ?_
      refine blk_normal ?_
      refine then_normal ?_
      refine wpr ?_
      refine wpl rfl rfl ht (ev_arith ht rfl rfl rfl rfl) ?_
      intro a ht
      refine wpl rfl rfl ht (ev_move ht rfl rfl) ?_
      intro a ht
      refine wpList_nil ?_
      exact then_normal ⟨q1, by omega, (w64 (xs0_1 + 1)), H, by omega, ht.sub ⟨rfl, rfl, rfl, rfl, rfl, trivial⟩, (hm.pick [0, 1, 2, 3] rfl (by decide)).pickφ [0] rfl⟩
  · replace H := ite_no h2 H
    refine wpc_no ht rfl (decide_eq_false h2) ?_
    refine wp_exit ?_
    refine then_exit ?_
    refine then_exit ?_
    refine blk_hit ?_
    refine then_normal ?_
    refine wp_seq ?_
    refine wpr ?_
    refine wpl rfl rfl ht (ev_assign ht rfl rfl) ?_
    intro a ht
    refine wpList_nil ?_
    refine then_normal ?_
    refine wp_ret ?_
    have hres := ht.res (P := Try.prog) (w := w) (rs := [.tmp 4]) (vs := [.int .i64 (-1)]) (.tmp rfl .nil)
    obtain rfl := Option.some.inj H
    exact leave ht rfl hres ⟨rfl, ((hm.pick [0, 1, 2, 3] rfl (by decide)).pickφ [] rfl).post fun _ h => h⟩

/-! ### slices_ContainsFunc_int64_int64__Colouring_goesWith_1: function 65 (slices.ContainsFunc[[]int64,int64]) -/
def slices_ContainsFunc_int64_int64__Colouring_goesWith_1.f (k : Nat) (s : List Int) (f : Col) (f2 : Int) (f3 : Int) : Option (Bool) := (slices_IndexFunc_int64_int64__Colouring_goesWith_1.f k s f f2 f3).bind fun t1 => some (decide (t1 ≥ 0))
set_option maxRecDepth 100000 in
set_option maxHeartbeats 1000000 in
theorem slices_ContainsFunc_int64_int64__Colouring_goesWith_1.calls (k : Nat) (X : List Nat) (w0 : World) (A : Option Addr) (c : Nat) (m : Nat) (b : Nat) (b2 : Nat) (b3 : Nat) (b4 : Nat) (s : List Int) (f : Col) (f2 : Int) (f3 : Int) (r : Bool)
    (hp : Pre X w0 [.blk b 70 [.pointer (some ⟨b2, 0, none⟩)], .blk b2 28 (Col.cells f), .blk b3 2 [.int .i64 f2], .blk b4 2 [.int .i64 f3]] [IntsAt A c m s]) (H : slices_ContainsFunc_int64_int64__Colouring_goesWith_1.f k s f f2 f3 = some r) :
    Calls Try.prog 65 [.slice A m c, .func (.func 84) [].toArray [.pointer (some ⟨b, 0, none⟩), .pointer (some ⟨b3, 0, none⟩), .pointer (some ⟨b4, 0, none⟩)].toArray].toArray w0 (Ret fun v w => v = .bool r ∧ Post X (fps [.blk b 70 [.pointer (some ⟨b2, 0, none⟩)], .blk b2 28 (Col.cells f), .blk b3 2 [.int .i64 f2], .blk b4 2 [.int .i64 f3]]) w0 [.blk b 70 [.pointer (some ⟨b2, 0, none⟩)], .blk b2 28 (Col.cells f), .blk b3 2 [.int .i64 f2], .blk b4 2 [.int .i64 f3]] [] w) := by
  unfold slices_ContainsFunc_int64_int64__Colouring_goesWith_1.f at H
  refine enterM (n := 9) hp Try.func65 rfl rfl (Nat.le_of_ble_eq_true rfl) fun a w ht hm => ?_
  refine wp_seq ?_
  refine wpr ?_
  refine wpl rfl rfl ht (ev_assign ht rfl rfl) ?_
  intro a ht
  refine wpList_nil ?_
  refine then_normal ?_
  refine wp_seq ?_
  refine wpr ?_
  refine wpl rfl rfl ht (ev_move ht rfl rfl) ?_
  intro a ht
  refine wpl rfl rfl ht (ev_move ht rfl rfl) ?_
  intro a ht
  obtain ⟨t1, et1, H⟩ := bind_get H
  have hcall := slices_IndexFunc_int64_int64__Colouring_goesWith_1.calls k _ _ A c m b b2 b3 b4 s f f2 f3 _ ((fun (hq : Ms _ _ _ ([.blk b 70 [.pointer (some ⟨b2, 0, none⟩)], .blk b2 28 (Col.cells f), .blk b3 2 [.int .i64 f2], .blk b4 2 [.int .i64 f3]] ++ []) _ _) => hq.lend (φp := [IntsAt A c m s]) (allRO_cons (hq.lendFact 0 rfl) (allRO_nil))) (hm.pick (own' := [.blk b 70 [.pointer (some ⟨b2, 0, none⟩)], .blk b2 28 (Col.cells f), .blk b3 2 [.int .i64 f2], .blk b4 2 [.int .i64 f3]] ++ []) [0, 1, 2, 3] rfl (by decide))) et1
  refine wpl_call _ rfl rfl ht rfl rfl rfl rfl can_78 hcall ?_
  clear hcall
  rintro _ w ⟨rfl, hpost⟩ a ht
  replace hm := (hm.pick (own' := [.blk b 70 [.pointer (some ⟨b2, 0, none⟩)], .blk b2 28 (Col.cells f), .blk b3 2 [.int .i64 f2], .blk b4 2 [.int .i64 f3]] ++ []) [0, 1, 2, 3] rfl (by decide)).backL hpost
  clear hpost
  refine wpl rfl rfl ht (ev_cmp ht rfl rfl rfl rfl) ?_
  intro a ht
  refine wpl rfl rfl ht (ev_assign ht rfl rfl) ?_
  intro a ht
  refine wpList_nil ?_
  refine then_normal ?_
  refine wp_ret ?_
  have hres := ht.res (P := Try.prog) (w := w) (rs := [.tmp 4]) (vs := [.bool (decide (t1 ≥ 0))]) (.tmp rfl .nil)
  obtain rfl := Option.some.inj H
  exact leave ht rfl hres ⟨rfl, ((hm.pick [0, 1, 2, 3] rfl (by decide)).pickφ [] rfl).post fun _ h => h⟩

/-! ### impl_Colouring_goesWith: function 82 ((*loop.example/g01362/impl.Colouring).goesWith) -/
def impl_Colouring_goesWith.f (k : Nat) (x : Col) (c : Int) (list : List Int) (p : Int) : Option (Bool) := (slices_ContainsFunc_int64_int64__Colouring_goesWith_1.f k list x p c).bind fun t4 => some !t4
set_option maxRecDepth 100000 in
set_option maxHeartbeats 1000000 in
theorem impl_Colouring_goesWith.calls (k : Nat) (X : List Nat) (w0 : World) (b : Nat) (A : Option Addr) (c2 : Nat) (m : Nat) (x : Col) (c : Int) (list : List Int) (p : Int) (r : Bool)
    (hp : Pre X w0 [.blk b 28 (Col.cells x)] [IntsAt A c2 m list]) (H : impl_Colouring_goesWith.f k x c list p = some r) :
    Calls Try.prog 82 [.pointer (some ⟨b, 0, none⟩), .int .i64 c, .slice A m c2, .int .i64 p].toArray w0 (Ret fun v w => v = .bool r ∧ Post X (fps [.blk b 28 (Col.cells x)]) w0 [.blk b 28 (Col.cells x)] [] w) := by
  unfold impl_Colouring_goesWith.f at H
  refine enterM (n := 13) hp Try.func82 rfl rfl (Nat.le_of_ble_eq_true rfl) fun a w ht hm => ?_
  refine wp_seq ?_
  refine wpr ?_
  refine wpl_box rfl rfl ht hm rfl rfl rfl ?_
  intro b1 a ht w hm
  refine wpl_box rfl rfl ht hm rfl rfl rfl ?_
  intro b2 a ht w hm
  refine wpl_box rfl rfl ht hm rfl rfl rfl ?_
  intro b3 a ht w hm
  refine wpl rfl rfl ht (ev_assign ht rfl rfl) ?_
  intro a ht
  refine wpList_nil ?_
  refine then_normal ?_
  refine wp_seq ?_
  refine wpr ?_
  refine wpl rfl rfl ht (ev_move ht rfl rfl) ?_
  intro a ht
  refine wpl rfl rfl ht (ev_makeFunc ht rfl rfl rfl) ?_
  intro a ht
  obtain ⟨t4, et4, H⟩ := bind_get H
  have hcall := slices_ContainsFunc_int64_int64__Colouring_goesWith_1.calls k _ _ A c2 m b1 b b3 b2 list x p c _ ((fun (hq : Ms _ _ _ ([.blk b1 70 [.pointer (some ⟨b, 0, none⟩)], .blk b 28 (Col.cells x), .blk b3 2 [.int .i64 p], .blk b2 2 [.int .i64 c]] ++ []) _ _) => hq.lend (φp := [IntsAt A c2 m list]) (allRO_cons (hq.lendFact 0 rfl) (allRO_nil))) (hm.pick (own' := [.blk b1 70 [.pointer (some ⟨b, 0, none⟩)], .blk b 28 (Col.cells x), .blk b3 2 [.int .i64 p], .blk b2 2 [.int .i64 c]] ++ []) [2, 3, 0, 1] rfl (by decide))) et4
  refine wpl_call _ rfl rfl ht rfl rfl rfl rfl can_65 hcall ?_
  clear hcall
  rintro _ w ⟨rfl, hpost⟩ a ht
  replace hm := (hm.pick (own' := [.blk b1 70 [.pointer (some ⟨b, 0, none⟩)], .blk b 28 (Col.cells x), .blk b3 2 [.int .i64 p], .blk b2 2 [.int .i64 c]] ++ []) [2, 3, 0, 1] rfl (by decide)).backL hpost
  clear hpost
  refine wpl rfl rfl ht (ev_not ht rfl rfl) ?_
  intro a ht
  refine wpl rfl rfl ht (ev_assign ht rfl rfl) ?_
  intro a ht
  refine wpList_nil ?_
  refine then_normal ?_
  refine wp_ret ?_
  have hres := ht.res (P := Try.prog) (w := w) (rs := [.tmp 8]) (vs := [.bool !t4]) (.tmp rfl .nil)
  obtain rfl := Option.some.inj H
  exact leave ht rfl hres ⟨rfl, ((hm.pick [1] rfl (by decide)).pickφ [] rfl).post fun _ h => h⟩

end Go.Proofs.Ytocjhmeekecdiaa.G
