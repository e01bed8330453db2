/- What each Go function computes, as a Lean function, and the proof that it does: written by a program of this session (wip/gen), part 5. -/
import Derived.Test.YtdpamdedomkomaaGFnExactFirstOfSizes4
namespace Go.Proofs.Ytdpamdedomkomaa.G
open Go Go.RowKit Go.Proofs.Ytdpamdedomkomaa.K
set_option linter.unusedVariables false
set_option linter.unusedSimpArgs false

/-! ### impl_areIn: function 124 (loop.example/g01362/impl.areIn) -/
def impl_areIn.f (k : Nat) (list : List Int) (many : Int) (low : Int) (high : Int) : Option (Bool) := (impl_size_int64.f list).bind fun t3 => if t3 = many then ((slices_ContainsFunc_int64_int64__areIn_1.f k list low high).bind fun t5 => some !t5) else (some false)
set_option maxRecDepth 100000 in
set_option maxHeartbeats 1000000 in
theorem impl_areIn.calls (k : Nat) (X : List Nat) (w0 : World) (A : Option Addr) (c : Nat) (m : Nat) (list : List Int) (many : Int) (low : Int) (high : Int) (r : Bool)
    (hp : Pre X w0 [] [IntsAt A c m list]) (H : impl_areIn.f k list many low high = some r) :
    Calls Try.prog 124 [.slice A m c, .int .i64 many, .int .i64 low, .int .i64 high].toArray w0 (Ret fun v w => v = .bool r ∧ Post X (fps []) w0 [] [] w) := by
  unfold impl_areIn.f at H
  refine enterM (n := 19) hp Try.func124 rfl rfl (Nat.le_of_ble_eq_true rfl) fun a w ht hm => ?_
  refine wp_seq ?_
  refine wpr ?_
  refine wpl_box rfl rfl ht hm rfl rfl rfl ?_
  intro b1 a ht w hm
  refine wpl_box rfl rfl ht hm rfl rfl rfl ?_
  intro b2 a ht w hm
  refine wpl rfl rfl ht (ev_assign ht rfl rfl) ?_
  intro a ht
  refine wpList_nil ?_
  refine then_normal ?_
  refine wp_seq ?_
  refine wpr ?_
  refine wpl rfl rfl ht (ev_move ht rfl rfl) ?_
  intro a ht
  obtain ⟨t3, et3, H⟩ := bind_get H
  have hcall := impl_size_int64.calls _ _ A c m list _ ((fun (hq : Ms _ _ _ ([] ++ [.blk b2 2 [.int .i64 high], .blk b1 2 [.int .i64 low]]) _ _) => hq.lend (φp := [IntsAt A c m list]) (allRO_cons (hq.lendFact 0 rfl) (allRO_nil))) (hm.pick (own' := [] ++ [.blk b2 2 [.int .i64 high], .blk b1 2 [.int .i64 low]]) [0, 1] rfl (by decide))) et3
  refine wpl_call _ rfl rfl ht rfl rfl rfl rfl can_85 hcall ?_
  clear hcall
  rintro _ w ⟨rfl, hpost⟩ a ht
  replace hm := (hm.pick (own' := [] ++ [.blk b2 2 [.int .i64 high], .blk b1 2 [.int .i64 low]]) [0, 1] rfl (by decide)).backL hpost
  clear hpost
  refine wpl rfl rfl ht (ev_move ht rfl rfl) ?_
  intro a ht
  refine wpl rfl rfl ht (ev_cmp ht rfl rfl rfl rfl) ?_
  intro a ht
  refine wpl rfl rfl ht (ev_move ht rfl rfl) ?_
  intro a ht
  by_cases h4 : t3 = many
  · replace H := ite_yes h4 H
    refine wpl_yes rfl ht rfl ((decide_eq_true h4)) ?_
    refine wpl rfl rfl ht (ev_move ht rfl rfl) ?_
    intro a ht
    refine wpl_yes rfl ht rfl ((decide_eq_true h4)) ?_
    refine wpl rfl rfl ht (ev_makeFunc ht rfl rfl rfl) ?_
    intro a ht
    refine wpl_yes rfl ht rfl ((decide_eq_true h4)) ?_
    obtain ⟨t5, et5, H⟩ := bind_get H
    have hcall := slices_ContainsFunc_int64_int64__areIn_1.calls k _ _ A c m b1 b2 list low high _ ((fun (hq : Ms _ _ _ ([.blk b1 2 [.int .i64 low], .blk b2 2 [.int .i64 high]] ++ []) _ _) => hq.lend (φp := [IntsAt A c m list]) (allRO_cons (hq.lendFact 0 rfl) (allRO_nil))) (hm.pick (own' := [.blk b1 2 [.int .i64 low], .blk b2 2 [.int .i64 high]] ++ []) [1, 0] rfl (by decide))) et5
    refine wpl_call _ rfl rfl ht rfl rfl rfl rfl can_119 hcall ?_
    clear hcall
    rintro _ w ⟨rfl, hpost⟩ a ht
    replace hm := (hm.pick (own' := [.blk b1 2 [.int .i64 low], .blk b2 2 [.int .i64 high]] ++ []) [1, 0] rfl (by decide)).backL hpost
    clear hpost
    refine wpl_yes rfl ht rfl ((decide_eq_true h4)) ?_
    refine wpl rfl rfl ht (ev_not ht rfl rfl) ?_
    intro a ht
    refine wpl rfl rfl ht (ev_pick_yes ht rfl rfl (decide_eq_true h4) rfl) ?_
    intro a ht
    refine wpl rfl rfl ht (ev_assign ht rfl rfl) ?_
    intro a ht
    refine wpList_nil ?_
    refine then_normal ?_
    refine wp_ret ?_
    have hres := ht.res (P := Try.prog) (w := w) (rs := [.tmp 8]) (vs := [.bool !t5]) (.tmp rfl .nil)
    obtain rfl := Option.some.inj H
    exact leave ht rfl hres ⟨rfl, ((hm.pick [] rfl (by decide)).pickφ [] rfl).post fun _ h => h⟩
  · replace H := ite_no h4 H
    refine wpl_no rfl rfl ht rfl (by rw [(decide_eq_false h4)]; decide) ?_
    intro a ht
    refine wpl_no rfl rfl ht rfl (by rw [(decide_eq_false h4)]; decide) ?_
    intro a ht
    refine wpl_no rfl rfl ht rfl (by rw [(decide_eq_false h4)]; decide) ?_
    intro a ht
    refine wpl_no rfl rfl ht rfl (by rw [(decide_eq_false h4)]; decide) ?_
    intro a ht
    refine wpl rfl rfl ht (ev_pick_no ht rfl rfl (decide_eq_false h4) rfl) ?_
    intro a ht
    refine wpl rfl rfl ht (ev_assign ht rfl rfl) ?_
    intro a ht
    refine wpList_nil ?_
    refine then_normal ?_
    refine wp_ret ?_
    have hres := ht.res (P := Try.prog) (w := w) (rs := [.tmp 8]) (vs := [.bool false]) (.tmp rfl .nil)
    obtain rfl := Option.some.inj H
    exact leave ht rfl hres ⟨rfl, ((hm.pick [] rfl (by decide)).pickφ [] rfl).post fun _ h => h⟩

/-! ### impl_areForbidden: function 109 (loop.example/g01362/impl.areForbidden) -/
def impl_areForbidden.f (k : Nat) (sizes : List Int) (k_ : Int) : Option (Bool) := (impl_areIn.f k sizes k_ 1 17).bind fun t1 => some t1
set_option maxRecDepth 100000 in
set_option maxHeartbeats 1000000 in
theorem impl_areForbidden.calls (k : Nat) (X : List Nat) (w0 : World) (A : Option Addr) (c : Nat) (m : Nat) (sizes : List Int) (k_ : Int) (r : Bool)
    (hp : Pre X w0 [] [IntsAt A c m sizes]) (H : impl_areForbidden.f k sizes k_ = some r) :
    Calls Try.prog 109 [.slice A m c, .int .i64 k_].toArray w0 (Ret fun v w => v = .bool r ∧ Post X (fps []) w0 [] [] w) := by
  unfold impl_areForbidden.f at H
  refine enterM (n := 8) hp Try.func109 rfl rfl (Nat.le_of_ble_eq_true rfl) fun a w ht hm => ?_
  refine wp_seq ?_
  refine wpr ?_
  refine wpl rfl rfl ht (ev_assign ht rfl rfl) ?_
  intro a ht
  refine wpList_nil ?_
  refine then_normal ?_
  refine wp_seq ?_
  refine wpr ?_
  refine wpl rfl rfl ht (ev_move ht rfl rfl) ?_
  intro a ht
  refine wpl rfl rfl ht (ev_move ht rfl rfl) ?_
  intro a ht
  obtain ⟨t1, et1, H⟩ := bind_get H
  have hcall := impl_areIn.calls k _ _ A c m sizes k_ 1 17 _ ((fun (hq : Ms _ _ _ ([] ++ []) _ _) => hq.lend (φp := [IntsAt A c m sizes]) (allRO_cons (hq.lendFact 0 rfl) (allRO_nil))) (hm.pick (own' := [] ++ []) [] rfl (by decide))) et1
  refine wpl_call _ rfl rfl ht rfl rfl rfl rfl can_124 hcall ?_
  clear hcall
  rintro _ w ⟨rfl, hpost⟩ a ht
  replace hm := (hm.pick (own' := [] ++ []) [] rfl (by decide)).backL hpost
  clear hpost
  refine wpl rfl rfl ht (ev_assign ht rfl rfl) ?_
  intro a ht
  refine wpList_nil ?_
  refine then_normal ?_
  refine wp_ret ?_
  have hres := ht.res (P := Try.prog) (w := w) (rs := [.tmp 4]) (vs := [.bool t1]) (.tmp rfl .nil)
  obtain rfl := Option.some.inj H
  exact leave ht rfl hres ⟨rfl, ((hm.pick [] rfl (by decide)).pickφ [] rfl).post fun _ h => h⟩

/-! ### impl_always: function 69 (loop.example/g01362/impl.always) -/
def impl_always.f  : Option (Bool) := some true
set_option maxRecDepth 100000 in
set_option maxHeartbeats 1000000 in
theorem impl_always.calls (X : List Nat) (w0 : World)   (r : Bool)
    (hp : Pre X w0 [] []) (H : impl_always.f  = some r) :
    Calls Try.prog 69 [].toArray w0 (Ret fun v w => v = .bool r ∧ Post X (fps []) w0 [] [] w) := by
  unfold impl_always.f at H
  refine enterM (n := 1) hp Try.func69 rfl rfl (Nat.le_of_ble_eq_true rfl) fun a w ht hm => ?_
  refine wp_seq ?_
  refine wpr ?_
  refine wpl rfl rfl ht (ev_assign ht rfl rfl) ?_
  intro a ht
  refine wpList_nil ?_
  refine then_normal ?_
  refine wp_seq ?_
  refine wpr ?_
  refine wpl rfl rfl ht (ev_assign ht rfl rfl) ?_
  intro a ht
  refine wpList_nil ?_
  refine then_normal ?_
  refine wp_ret ?_
  have hres := ht.res (P := Try.prog) (w := w) (rs := [.tmp 0]) (vs := [.bool true]) (.tmp rfl .nil)
  obtain rfl := Option.some.inj H
  exact leave ht rfl hres ⟨rfl, ((hm.pick [] rfl (by decide)).pickφ [] rfl).post fun _ h => h⟩

/-! ### impl_Colouring_sizesCode_1__always: function 108 ((*loop.example/g01362/impl.Colouring).sizesCode$1) -/
def impl_Colouring_sizesCode_1__always.f (k : Nat) (x : List Int) (x2 : Col) : Option (Bool) := (impl_areForbidden.f k x x2.k).bind fun t1 => if t1 = true then ((impl_always.f ).bind fun t3 => some t3) else (some false)
set_option maxRecDepth 100000 in
set_option maxHeartbeats 1000000 in
theorem impl_Colouring_sizesCode_1__always.calls (k : Nat) (X : List Nat) (w0 : World) (b : Nat) (A : Option Addr) (c : Nat) (m : Nat) (b2 : Nat) (b3 : Nat) (b4 : Nat) (x : List Int) (x2 : Col) (r : Bool)
    (hp : Pre X w0 [.blk b 25 [.slice A m c], .blk b2 87 [.pointer (some ⟨b3, 0, none⟩)], .blk b3 28 (Col.cells x2), .blk b4 63 [.func (.func 69) #[] #[]]] [IntsAt A c m x]) (H : impl_Colouring_sizesCode_1__always.f k x x2 = some r) :
    Calls Try.prog 108 [.pointer (some ⟨b, 0, none⟩), .pointer (some ⟨b2, 0, none⟩), .pointer (some ⟨b4, 0, none⟩)].toArray w0 (Ret fun v w => v = .bool r ∧ Post X (fps [.blk b 25 [.slice A m c], .blk b2 87 [.pointer (some ⟨b3, 0, none⟩)], .blk b3 28 (Col.cells x2), .blk b4 63 [.func (.func 69) #[] #[]]]) w0 [.blk b 25 [.slice A m c], .blk b2 87 [.pointer (some ⟨b3, 0, none⟩)], .blk b3 28 (Col.cells x2), .blk b4 63 [.func (.func 69) #[] #[]]] [] w) := by
  unfold impl_Colouring_sizesCode_1__always.f at H
  refine enterM (n := 14) hp Try.func108 rfl rfl (Nat.le_of_ble_eq_true rfl) fun a w ht hm => ?_
  refine wp_seq ?_
  refine wpr ?_
  refine wpl rfl rfl ht (ev_assign ht rfl rfl) ?_
  intro a ht
  refine wpList_nil ?_
  refine then_normal ?_
  refine wp_seq ?_
  refine wph_begin (fun w => Ms X (fps [.blk b 25 [.slice A m c], .blk b2 87 [.pointer (some ⟨b3, 0, none⟩)], .blk b3 28 (Col.cells x2), .blk b4 63 [.func (.func 69) #[] #[]]]) w0 [.blk b 25 [.slice A m c], .blk b2 87 [.pointer (some ⟨b3, 0, none⟩)], .blk b3 28 (Col.cells x2), .blk b4 63 [.func (.func 69) #[] #[]]] [IntsAt A c m x] w) mixed ?_
  replace hm := hm.drew
  have hS : Ms X (fps [.blk b 25 [.slice A m c], .blk b2 87 [.pointer (some ⟨b3, 0, none⟩)], .blk b3 28 (Col.cells x2), .blk b4 63 [.func (.func 69) #[] #[]]]) w0 [.blk b 25 [.slice A m c], .blk b2 87 [.pointer (some ⟨b3, 0, none⟩)], .blk b3 28 (Col.cells x2), .blk b4 63 [.func (.func 69) #[] #[]]] [IntsAt A c m x] w.drew := (hm.pick [0, 1, 2, 3] rfl (by decide)).pickφ [0] rfl
  generalize w.drew = w at hm hS ⊢
  refine wph_take (i := 0) rfl (by kernel_rfl) (by kernel_rfl) (by kernel_rfl) (fun _ _ _ h => h) rfl ht hS (wanted_plain rfl) (fun w hm => ev_load ht rfl rfl sc_25 (hm.blk_cell 0 rfl rfl)) ?_
  intro a ht
  refine wph_take (i := 1) rfl (by kernel_rfl) (by kernel_rfl) (by kernel_rfl) (fun _ _ _ h => h) rfl ht hS (wanted_plain rfl) (fun w hm => ev_load ht rfl rfl sc_87 (hm.blk_cell 1 rfl rfl)) ?_
  intro a ht
  refine wph_take (i := 2) rfl (by kernel_rfl) (by kernel_rfl) (by kernel_rfl) (fun _ _ _ h => h) rfl ht hS (wanted_plain rfl) (fun w hm => ev_nilCheck ht rfl rfl) ?_
  intro a ht
  refine wph_take (i := 3) rfl (by kernel_rfl) (by kernel_rfl) (by kernel_rfl) (fun _ _ _ h => h) rfl ht hS (wanted_plain rfl) (fun w hm => ev_fieldAddr ht rfl rfl fo_28_1) ?_
  intro a ht
  refine wph_take (i := 4) rfl (by kernel_rfl) (by kernel_rfl) (by kernel_rfl) (fun _ _ _ h => h) rfl ht hS (wanted_plain rfl) (fun w hm => ev_load ht rfl rfl sc_2 (hm.blk_cell 2 rfl rfl)) ?_
  intro a ht
  refine wph_one (i := 5) (by kernel_rfl) (wph_step rfl ?_)
  obtain ⟨t1, et1, H⟩ := bind_get H
  have hcall := impl_areForbidden.calls k _ _ A c m x x2.k _ ((fun (hq : Ms _ _ _ ([] ++ [.blk b 25 [.slice A m c], .blk b2 87 [.pointer (some ⟨b3, 0, none⟩)], .blk b3 28 (Col.cells x2), .blk b4 63 [.func (.func 69) #[] #[]]]) _ _) => hq.lend (φp := [IntsAt A c m x]) (allRO_cons (hq.lendFact 0 rfl) (allRO_nil))) (hm.pick (own' := [] ++ [.blk b 25 [.slice A m c], .blk b2 87 [.pointer (some ⟨b3, 0, none⟩)], .blk b3 28 (Col.cells x2), .blk b4 63 [.func (.func 69) #[] #[]]]) [0, 1, 2, 3] rfl (by decide))) et1
  refine wpl_call _ rfl rfl ht rfl rfl rfl rfl can_109 hcall ?_
  clear hcall
  rintro _ w ⟨rfl, hpost⟩ a ht
  replace hm := (hm.pick (own' := [] ++ [.blk b 25 [.slice A m c], .blk b2 87 [.pointer (some ⟨b3, 0, none⟩)], .blk b3 28 (Col.cells x2), .blk b4 63 [.func (.func 69) #[] #[]]]) [0, 1, 2, 3] rfl (by decide)).backL hpost
  clear hpost
  have hS : Ms X (fps [.blk b 25 [.slice A m c], .blk b2 87 [.pointer (some ⟨b3, 0, none⟩)], .blk b3 28 (Col.cells x2), .blk b4 63 [.func (.func 69) #[] #[]]]) w0 [.blk b 25 [.slice A m c], .blk b2 87 [.pointer (some ⟨b3, 0, none⟩)], .blk b3 28 (Col.cells x2), .blk b4 63 [.func (.func 69) #[] #[]]] [IntsAt A c m x] w := (hm.pick [0, 1, 2, 3] rfl (by decide)).pickφ [0] rfl
  refine wpList_nil (qn ⟨hS, ?_⟩)
  refine wph_take (i := 6) rfl (by kernel_rfl) (by kernel_rfl) (by kernel_rfl) (fun _ _ _ h => h) rfl ht hS (wanted_plain rfl) (fun w hm => ev_move ht rfl rfl) ?_
  intro a ht
  by_cases h2 : t1 = true
  · replace H := ite_yes h2 H
    refine wph_take (i := 7) rfl (by kernel_rfl) (by kernel_rfl) (by kernel_rfl) (fun _ _ _ h => h) rfl ht hS (wanted_yes rfl ht rfl (h2)) (fun w hm => ev_load ht rfl rfl sc_63 (hm.blk_cell 3 rfl rfl)) ?_
    intro a ht
    refine wph_one (i := 8) (by kernel_rfl) (wph_step rfl ?_)
    refine wpl_yes rfl ht rfl (h2) ?_
    obtain ⟨t3, et3, H⟩ := bind_get H
    have hcall := impl_always.calls _ _ _ ((fun (hq : Ms _ _ _ ([] ++ [.blk b 25 [.slice A m c], .blk b2 87 [.pointer (some ⟨b3, 0, none⟩)], .blk b3 28 (Col.cells x2), .blk b4 63 [.func (.func 69) #[] #[]]]) _ _) => hq.lend (φp := []) (allRO_nil)) (hm.pick (own' := [] ++ [.blk b 25 [.slice A m c], .blk b2 87 [.pointer (some ⟨b3, 0, none⟩)], .blk b3 28 (Col.cells x2), .blk b4 63 [.func (.func 69) #[] #[]]]) [0, 1, 2, 3] rfl (by decide))) et3
    refine wpl_call _ rfl rfl ht rfl rfl rfl rfl can_69 hcall ?_
    clear hcall
    rintro _ w ⟨rfl, hpost⟩ a ht
    replace hm := (hm.pick (own' := [] ++ [.blk b 25 [.slice A m c], .blk b2 87 [.pointer (some ⟨b3, 0, none⟩)], .blk b3 28 (Col.cells x2), .blk b4 63 [.func (.func 69) #[] #[]]]) [0, 1, 2, 3] rfl (by decide)).backL hpost
    clear hpost
    have hS : Ms X (fps [.blk b 25 [.slice A m c], .blk b2 87 [.pointer (some ⟨b3, 0, none⟩)], .blk b3 28 (Col.cells x2), .blk b4 63 [.func (.func 69) #[] #[]]]) w0 [.blk b 25 [.slice A m c], .blk b2 87 [.pointer (some ⟨b3, 0, none⟩)], .blk b3 28 (Col.cells x2), .blk b4 63 [.func (.func 69) #[] #[]]] [IntsAt A c m x] w := (hm.pick [0, 1, 2, 3] rfl (by decide)).pickφ [0] rfl
    refine wpList_nil (qn ⟨hS, ?_⟩)
    refine wph_take (i := 9) rfl (by kernel_rfl) (by kernel_rfl) (by kernel_rfl) (fun _ _ _ h => h) rfl ht hS (wanted_plain rfl) (fun w hm => ev_pick_yes ht rfl rfl h2 rfl) ?_
    intro a ht
    refine wph_take (i := 10) rfl (by kernel_rfl) (by kernel_rfl) (by kernel_rfl) (fun _ _ _ h => h) rfl ht hS (wanted_plain rfl) (fun w hm => ev_assign ht rfl rfl) ?_
    intro a ht
    refine wph_done (by kernel_rfl) ?_
    refine then_normal ?_
    refine wp_ret ?_
    have hres := ht.res (P := Try.prog) (w := w) (rs := [.tmp 3]) (vs := [.bool t3]) (.tmp rfl .nil)
    obtain rfl := Option.some.inj H
    exact leave ht rfl hres ⟨rfl, ((hm.pick [0, 1, 2, 3] rfl (by decide)).pickφ [] rfl).post fun _ h => h⟩
  · replace H := ite_no h2 H
    refine wph_pass (i := 7) rfl (by kernel_rfl) (by kernel_rfl) (by kernel_rfl) (fun _ _ _ h => h) rfl ht hS (wanted_no rfl ht rfl (by rw [(Bool.eq_false_iff.mpr h2)]; decide)) ?_
    intro a ht
    refine wph_pass (i := 8) rfl (by kernel_rfl) (by kernel_rfl) (by kernel_rfl) (fun _ _ _ h => h) rfl ht hS (wanted_no rfl ht rfl (by rw [(Bool.eq_false_iff.mpr h2)]; decide)) ?_
    intro a ht
    refine wph_take (i := 9) rfl (by kernel_rfl) (by kernel_rfl) (by kernel_rfl) (fun _ _ _ h => h) rfl ht hS (wanted_plain rfl) (fun w hm => ev_pick_no ht rfl rfl (Bool.eq_false_iff.mpr h2) rfl) ?_
    intro a ht
    refine wph_take (i := 10) rfl (by kernel_rfl) (by kernel_rfl) (by kernel_rfl) (fun _ _ _ h => h) rfl ht hS (wanted_plain rfl) (fun w hm => ev_assign ht rfl rfl) ?_
    intro a ht
    refine wph_done (by kernel_rfl) ?_
    refine then_normal ?_
    refine wp_ret ?_
    have hres := ht.res (P := Try.prog) (w := w) (rs := [.tmp 3]) (vs := [.bool false]) (.tmp rfl .nil)
    obtain rfl := Option.some.inj H
    exact leave ht rfl hres ⟨rfl, ((hm.pick [0, 1, 2, 3] rfl (by decide)).pickφ [] rfl).post fun _ h => h⟩

/-! ### impl_Colouring_code__Colouring_sizesCode_1__always: function 52 ((*loop.example/g01362/impl.Colouring).code) -/
def impl_Colouring_code__Colouring_sizesCode_1__always.f (k : Nat) (x : Col) (right : List Int) : Option (Int) := (impl_Colouring_isColouring.f k x).bind fun t1 => if t1 = true then ((impl_Colouring_sizesCode_1__always.f k right x).bind fun t3 => if t3 = true then (some 0) else (some 2)) else (some 1)
set_option maxRecDepth 100000 in
set_option maxHeartbeats 1000000 in
theorem impl_Colouring_code__Colouring_sizesCode_1__always.calls (k : Nat) (X : List Nat) (w0 : World) (b : Nat) (b2 : Nat) (A : Option Addr) (c : Nat) (m : Nat) (b3 : Nat) (b4 : Nat) (x : Col) (right : List Int) (r : Int)
    (hp : Pre X w0 [.blk b 28 (Col.cells x), .blk b2 25 [.slice A m c], .blk b3 87 [.pointer (some ⟨b, 0, none⟩)], .blk b4 63 [.func (.func 69) #[] #[]]] [IntsAt A c m right]) (H : impl_Colouring_code__Colouring_sizesCode_1__always.f k x right = some r) :
    Calls Try.prog 52 [.pointer (some ⟨b, 0, none⟩), .func (.func 108) [].toArray [.pointer (some ⟨b2, 0, none⟩), .pointer (some ⟨b3, 0, none⟩), .pointer (some ⟨b4, 0, none⟩)].toArray].toArray w0 (Ret fun v w => v = .int .i64 r ∧ Post X (fps [.blk b 28 (Col.cells x), .blk b2 25 [.slice A m c], .blk b3 87 [.pointer (some ⟨b, 0, none⟩)], .blk b4 63 [.func (.func 69) #[] #[]]]) w0 [.blk b 28 (Col.cells x), .blk b2 25 [.slice A m c], .blk b3 87 [.pointer (some ⟨b, 0, none⟩)], .blk b4 63 [.func (.func 69) #[] #[]]] [] w) := by
  unfold impl_Colouring_code__Colouring_sizesCode_1__always.f at H
  refine enterM (n := 13) hp Try.func52 rfl rfl (Nat.le_of_ble_eq_true rfl) fun a w ht hm => ?_
  refine wp_seq ?_
  refine wpr ?_
  refine wpl rfl rfl ht (ev_assign ht rfl rfl) ?_
  intro a ht
  refine wpList_nil ?_
  refine then_normal ?_
  refine wp_seq ?_
  refine wp_block ?_
  refine wp_seq ?_
  refine wpr ?_
  refine wpl rfl rfl ht (ev_move ht rfl rfl) ?_
  intro a ht
  obtain ⟨t1, et1, H⟩ := bind_get H
  have hcall := impl_Colouring_isColouring.calls k _ _ b x _ ((fun (hq : Ms _ _ _ ([.blk b 28 (Col.cells x)] ++ [.blk b2 25 [.slice A m c], .blk b3 87 [.pointer (some ⟨b, 0, none⟩)], .blk b4 63 [.func (.func 69) #[] #[]]]) _ _) => hq.lend (φp := []) (allRO_nil)) (hm.pick (own' := [.blk b 28 (Col.cells x)] ++ [.blk b2 25 [.slice A m c], .blk b3 87 [.pointer (some ⟨b, 0, none⟩)], .blk b4 63 [.func (.func 69) #[] #[]]]) [0, 1, 2, 3] rfl (by decide))) et1
  refine wpl_call _ rfl rfl ht rfl rfl rfl rfl can_101 hcall ?_
  clear hcall
  rintro _ w ⟨rfl, hpost⟩ a ht
  replace hm := (hm.pick (own' := [.blk b 28 (Col.cells x)] ++ [.blk b2 25 [.slice A m c], .blk b3 87 [.pointer (some ⟨b, 0, none⟩)], .blk b4 63 [.func (.func 69) #[] #[]]]) [0, 1, 2, 3] rfl (by decide)).backL hpost
  clear hpost
  refine wpl rfl rfl ht (ev_not ht rfl rfl) ?_
  intro a ht
  refine wpl rfl rfl ht (ev_assign ht rfl rfl) ?_
  intro a ht
  refine wpList_nil ?_
  refine then_normal ?_
  by_cases h2 : t1 = true
  · replace H := ite_yes h2 H
    refine wpc_no ht rfl (not_t h2) ?_
    refine wp_seq ?_
    refine wpr ?_
    refine wpl rfl rfl ht (ev_move ht rfl rfl) ?_
    intro a ht
    obtain ⟨t3, et3, H⟩ := bind_get H
    have hcall := impl_Colouring_sizesCode_1__always.calls k _ _ b2 A c m b3 b b4 right x _ ((fun (hq : Ms _ _ _ ([.blk b2 25 [.slice A m c], .blk b3 87 [.pointer (some ⟨b, 0, none⟩)], .blk b 28 (Col.cells x), .blk b4 63 [.func (.func 69) #[] #[]]] ++ []) _ _) => hq.lend (φp := [IntsAt A c m right]) (allRO_cons (hq.lendFact 0 rfl) (allRO_nil))) (hm.pick (own' := [.blk b2 25 [.slice A m c], .blk b3 87 [.pointer (some ⟨b, 0, none⟩)], .blk b 28 (Col.cells x), .blk b4 63 [.func (.func 69) #[] #[]]] ++ []) [1, 2, 0, 3] rfl (by decide))) et3
    refine wpl_call _ rfl rfl ht rfl rfl rfl rfl can_108 hcall ?_
    clear hcall
    rintro _ w ⟨rfl, hpost⟩ a ht
    replace hm := (hm.pick (own' := [.blk b2 25 [.slice A m c], .blk b3 87 [.pointer (some ⟨b, 0, none⟩)], .blk b 28 (Col.cells x), .blk b4 63 [.func (.func 69) #[] #[]]] ++ []) [1, 2, 0, 3] rfl (by decide)).backL hpost
    clear hpost
    refine wpl rfl rfl ht (ev_not ht rfl rfl) ?_
    intro a ht
    refine wpl rfl rfl ht (ev_assign ht rfl rfl) ?_
    intro a ht
    refine wpList_nil ?_
    refine then_normal ?_
    by_cases h4 : t3 = true
    · replace H := ite_yes h4 H
      refine wpc_no ht rfl (not_t h4) ?_
      refine wp_skip ?_
      refine blk_normal ?_
      refine then_normal ?_
      refine wp_seq ?_
      refine wpr ?_
      refine wpl rfl rfl ht (ev_assign ht rfl rfl) ?_
      intro a ht
      refine wpList_nil ?_
      refine then_normal ?_
      refine wp_ret ?_
      have hres := ht.res (P := Try.prog) (w := w) (rs := [.tmp 4]) (vs := [.int .i64 0]) (.tmp rfl .nil)
      obtain rfl := Option.some.inj H
      exact leave ht rfl hres ⟨rfl, ((hm.pick [2, 0, 1, 3] rfl (by decide)).pickφ [] rfl).post fun _ h => h⟩
    · replace H := ite_no h4 H
      refine wpc_yes ht rfl (not_f (Bool.eq_false_iff.mpr h4)) ?_
      refine wp_seq ?_
      refine wpr ?_
      refine wpl rfl rfl ht (ev_assign ht rfl rfl) ?_
      intro a ht
      refine wpList_nil ?_
      refine then_normal ?_
      refine wp_ret ?_
      refine blk_ret ?_
      refine then_ret ?_
      have hres := ht.res (P := Try.prog) (w := w) (rs := [.tmp 4]) (vs := [.int .i64 2]) (.tmp rfl .nil)
      obtain rfl := Option.some.inj H
      exact leave ht rfl hres ⟨rfl, ((hm.pick [2, 0, 1, 3] rfl (by decide)).pickφ [] rfl).post fun _ h => h⟩
  · replace H := ite_no h2 H
    refine wpc_yes ht rfl (not_f (Bool.eq_false_iff.mpr h2)) ?_
    refine wp_seq ?_
    refine wpr ?_
    refine wpl rfl rfl ht (ev_assign ht rfl rfl) ?_
    intro a ht
    refine wpList_nil ?_
    refine then_normal ?_
    refine wp_ret ?_
    refine blk_ret ?_
    refine then_ret ?_
    have hres := ht.res (P := Try.prog) (w := w) (rs := [.tmp 4]) (vs := [.int .i64 1]) (.tmp rfl .nil)
    obtain rfl := Option.some.inj H
    exact leave ht rfl hres ⟨rfl, ((hm.pick [0, 1, 2, 3] rfl (by decide)).pickφ [] rfl).post fun _ h => h⟩

/-! ### impl_Colouring_sizesCode__always: function 77 ((*loop.example/g01362/impl.Colouring).sizesCode) -/
def impl_Colouring_sizesCode__always.f (k : Nat) (x : Col) (sizes : List Int) : Option (Int) := (impl_Colouring_code__Colouring_sizesCode_1__always.f k x sizes).bind fun t4 => some t4
set_option maxRecDepth 100000 in
set_option maxHeartbeats 1000000 in
theorem impl_Colouring_sizesCode__always.calls (k : Nat) (X : List Nat) (w0 : World) (b : Nat) (A : Option Addr) (c : Nat) (m : Nat) (x : Col) (sizes : List Int) (r : Int)
    (hp : Pre X w0 [.blk b 28 (Col.cells x)] [IntsAt A c m sizes]) (H : impl_Colouring_sizesCode__always.f k x sizes = some r) :
    Calls Try.prog 77 [.pointer (some ⟨b, 0, none⟩), .slice A m c, .func (.func 69) #[] #[]].toArray w0 (Ret fun v w => v = .int .i64 r ∧ Post X (fps [.blk b 28 (Col.cells x)]) w0 [.blk b 28 (Col.cells x)] [] w) := by
  unfold impl_Colouring_sizesCode__always.f at H
  refine enterM (n := 10) hp Try.func77 rfl rfl (Nat.le_of_ble_eq_true rfl) fun a w ht hm => ?_
  refine wp_seq ?_
  refine wpr ?_
  refine wpl_box rfl rfl ht hm rfl rfl rfl ?_
  intro b1 a ht w hm
  refine wpl_box rfl rfl ht hm rfl rfl rfl ?_
  intro b2 a ht w hm
  refine wpl_box rfl rfl ht hm rfl rfl rfl ?_
  intro b3 a ht w hm
  refine wpl rfl rfl ht (ev_assign ht rfl rfl) ?_
  intro a ht
  refine wpList_nil ?_
  refine then_normal ?_
  refine wp_seq ?_
  refine wpr ?_
  refine wpl rfl rfl ht (ev_load ht rfl rfl sc_87 (hm.blk_cell 2 rfl rfl)) ?_
  intro a ht
  refine wpl rfl rfl ht (ev_makeFunc ht rfl rfl rfl) ?_
  intro a ht
  obtain ⟨t4, et4, H⟩ := bind_get H
  have hcall := impl_Colouring_code__Colouring_sizesCode_1__always.calls k _ _ b b2 A c m b1 b3 x sizes _ ((fun (hq : Ms _ _ _ ([.blk b 28 (Col.cells x), .blk b2 25 [.slice A m c], .blk b1 87 [.pointer (some ⟨b, 0, none⟩)], .blk b3 63 [.func (.func 69) #[] #[]]] ++ []) _ _) => hq.lend (φp := [IntsAt A c m sizes]) (allRO_cons (hq.lendFact 0 rfl) (allRO_nil))) (hm.pick (own' := [.blk b 28 (Col.cells x), .blk b2 25 [.slice A m c], .blk b1 87 [.pointer (some ⟨b, 0, none⟩)], .blk b3 63 [.func (.func 69) #[] #[]]] ++ []) [3, 1, 2, 0] rfl (by decide))) et4
  refine wpl_call _ rfl rfl ht rfl rfl rfl rfl can_52 hcall ?_
  clear hcall
  rintro _ w ⟨rfl, hpost⟩ a ht
  replace hm := (hm.pick (own' := [.blk b 28 (Col.cells x), .blk b2 25 [.slice A m c], .blk b1 87 [.pointer (some ⟨b, 0, none⟩)], .blk b3 63 [.func (.func 69) #[] #[]]] ++ []) [3, 1, 2, 0] rfl (by decide)).backL hpost
  clear hpost
  refine wpl rfl rfl ht (ev_assign ht rfl rfl) ?_
  intro a ht
  refine wpList_nil ?_
  refine then_normal ?_
  refine wp_ret ?_
  have hres := ht.res (P := Try.prog) (w := w) (rs := [.tmp 6]) (vs := [.int .i64 t4]) (.tmp rfl .nil)
  obtain rfl := Option.some.inj H
  exact leave ht rfl hres ⟨rfl, ((hm.pick [0] rfl (by decide)).pickφ [] rfl).post fun _ h => h⟩

/-! ### impl_Colouring_firstOf_1: function 111 ((*loop.example/g01362/impl.Colouring).firstOf$1) -/
def impl_Colouring_firstOf_1.f (list : List Int) (x : Int) (x2 : List Int) : Option (Bool × List Int) := (impl_size_int64.f list).bind fun t2 => if t2 < x then (some (true, x2)) else (some (false, list))
set_option maxRecDepth 100000 in
set_option maxHeartbeats 1000000 in
theorem impl_Colouring_firstOf_1.calls (X : List Nat) (w0 : World) (B : Nat) (A : Option Addr) (c : Nat) (m : Nat) (b : Nat) (b2 : Nat) (A2 : Option Addr) (c2 : Nat) (m2 : Nat) (list : List Int) (x : Int) (x2 : List Int) (r : Bool × List Int)
    (hp : Pre X w0 [.blk b 2 [.int .i64 x], .blk b2 25 [.slice A2 m2 c2]] [OwnAt B 2 A c m list, OwnAt B 2 A2 c2 m2 x2]) (hB : B ≤ w0.heap.size) (H : impl_Colouring_firstOf_1.f list x x2 = some r) :
    Calls Try.prog 111 [.slice A m c, .pointer (some ⟨b, 0, none⟩), .pointer (some ⟨b2, 0, none⟩)].toArray w0 (Ret fun v w => ∃ (B_1_0 : Option Addr) (d_1_0 : Nat) (m_1_0 : Nat), v = .bool r.1 ∧ Post X (fps [.blk b 2 [.int .i64 x], .blk b2 25 [.slice A2 m2 c2]]) w0 [.blk b 2 [.int .i64 x], .blk b2 25 [.slice B_1_0 m_1_0 d_1_0]] [OwnAt B 2 B_1_0 d_1_0 m_1_0 r.2] w) := by
  unfold impl_Colouring_firstOf_1.f at H
  refine enterM (n := 10) hp Try.func111 rfl rfl (Nat.le_of_ble_eq_true rfl) fun a w ht hm => ?_
  refine wp_seq ?_
  refine wpr ?_
  refine wpl rfl rfl ht (ev_assign ht rfl rfl) ?_
  intro a ht
  refine wpList_nil ?_
  refine then_normal ?_
  refine wp_seq ?_
  refine wp_seq ?_
  refine wph_begin (fun w => Ms X (fps [.blk b 2 [.int .i64 x], .blk b2 25 [.slice A2 m2 c2]]) w0 [.blk b 2 [.int .i64 x], .blk b2 25 [.slice A2 m2 c2]] [OwnAt B 2 A c m list, OwnAt B 2 A2 c2 m2 x2] w) mixed ?_
  replace hm := hm.drew
  have hS : Ms X (fps [.blk b 2 [.int .i64 x], .blk b2 25 [.slice A2 m2 c2]]) w0 [.blk b 2 [.int .i64 x], .blk b2 25 [.slice A2 m2 c2]] [OwnAt B 2 A c m list, OwnAt B 2 A2 c2 m2 x2] w.drew := (hm.pick [0, 1] rfl (by decide)).pickφ [0, 1] rfl
  generalize w.drew = w at hm hS ⊢
  refine wph_take (i := 0) rfl (by kernel_rfl) (by kernel_rfl) (by kernel_rfl) (fun _ _ _ h => h) rfl ht hS (wanted_plain rfl) (fun w hm => ev_move ht rfl rfl) ?_
  intro a ht
  refine wph_take (i := 2) rfl (by kernel_rfl) (by kernel_rfl) (by kernel_rfl) (fun _ _ _ h => h) rfl ht hS (wanted_plain rfl) (fun w hm => ev_load ht rfl rfl sc_2 (hm.blk_cell 0 rfl rfl)) ?_
  intro a ht
  refine wph_one (i := 1) (by kernel_rfl) (wph_step rfl ?_)
  replace hm : Ms _ _ _ _ (IntsAt A c m list :: _) w := hm.addφ ((hm.ro (φ := OwnAt B 2 A c m list) 0 rfl).mono fun w h => OwnAt.row h)
  obtain ⟨t2, et2, H⟩ := bind_get H
  have hcall := impl_size_int64.calls _ _ A c m list _ ((fun (hq : Ms _ _ _ ([] ++ [.blk b 2 [.int .i64 x], .blk b2 25 [.slice A2 m2 c2]]) _ _) => hq.lend (φp := [IntsAt A c m list]) (allRO_cons (hq.lendFact 0 rfl) (allRO_nil))) (hm.pick (own' := [] ++ [.blk b 2 [.int .i64 x], .blk b2 25 [.slice A2 m2 c2]]) [0, 1] rfl (by decide))) et2
  refine wpl_call _ rfl rfl ht rfl rfl rfl rfl can_85 hcall ?_
  clear hcall
  rintro _ w ⟨rfl, hpost⟩ a ht
  replace hm := (hm.pick (own' := [] ++ [.blk b 2 [.int .i64 x], .blk b2 25 [.slice A2 m2 c2]]) [0, 1] rfl (by decide)).backL hpost
  clear hpost
  have hS : Ms X (fps [.blk b 2 [.int .i64 x], .blk b2 25 [.slice A2 m2 c2]]) w0 [.blk b 2 [.int .i64 x], .blk b2 25 [.slice A2 m2 c2]] [OwnAt B 2 A c m list, OwnAt B 2 A2 c2 m2 x2] w := (hm.pick [0, 1] rfl (by decide)).pickφ [1, 2] rfl
  refine wpList_nil (qn ⟨hS, ?_⟩)
  refine wph_take (i := 3) rfl (by kernel_rfl) (by kernel_rfl) (by kernel_rfl) (fun _ _ _ h => h) rfl ht hS (wanted_plain rfl) (fun w hm => ev_cmp ht rfl rfl rfl rfl) ?_
  intro a ht
  refine wph_done (by kernel_rfl) ?_
  refine then_normal ?_
  by_cases h3 : t2 < x
  · replace H := ite_yes h3 H
    refine wpc_yes ht rfl (decide_eq_true h3) ?_
    refine wp_seq ?_
    refine wpr ?_
    refine wpl rfl rfl ht (ev_assign ht rfl rfl) ?_
    intro a ht
    refine wpList_nil ?_
    refine then_normal ?_
    refine wp_ret ?_
    refine then_ret ?_
    have hres := ht.res (P := Try.prog) (w := w) (rs := [.tmp 4]) (vs := [.bool true]) (.tmp rfl .nil)
    obtain rfl := Option.some.inj H
    exact leave ht rfl hres ⟨A2, c2, m2, rfl, ((hm.pick [0, 1] rfl (by decide)).pickφ [2] rfl).post fun _ h => h⟩
  · replace H := ite_no h3 H
    refine wpc_no ht rfl (decide_eq_false h3) ?_
    refine wp_skip ?_
    refine then_normal ?_
    refine wp_seq ?_
    refine wpr ?_
    refine wpl rfl rfl ht (ev_move ht rfl rfl) ?_
    intro a ht
    refine wpl_store_blk 1 rfl rfl ht hm rfl rfl rfl sz1_25 rfl rfl rfl ?_
    intro a ht w hm
    refine wpList_nil ?_
    refine then_normal ?_
    refine wp_seq ?_
    refine wpr ?_
    refine wpl rfl rfl ht (ev_assign ht rfl rfl) ?_
    intro a ht
    refine wpList_nil ?_
    refine then_normal ?_
    refine wp_ret ?_
    have hres := ht.res (P := Try.prog) (w := w) (rs := [.tmp 4]) (vs := [.bool false]) (.tmp rfl .nil)
    obtain rfl := Option.some.inj H
    exact leave ht rfl hres ⟨A, c, m, rfl, ((hm.pick [0, 1] rfl (by decide)).pickφ [1] rfl).post fun _ h => h⟩

/-! ### impl_number: function 127 (loop.example/g01362/impl.number) -/
def impl_number.f (i : Int) (j : Int) : Option (Int) := some (w64 ((w64 (Int.tdiv (w64 ((max i j) * (w64 ((max i j) - 1)))) 2)) + (min i j)))
set_option maxRecDepth 100000 in
set_option maxHeartbeats 1000000 in
theorem impl_number.calls (X : List Nat) (w0 : World)  (i : Int) (j : Int) (r : Int)
    (hp : Pre X w0 [] []) (H : impl_number.f i j = some r) :
    Calls Try.prog 127 [.int .i64 i, .int .i64 j].toArray w0 (Ret fun v w => v = .int .i64 r ∧ Post X (fps []) w0 [] [] w) := by
  unfold impl_number.f at H
  refine enterM (n := 18) hp Try.func127 rfl rfl (Nat.le_of_ble_eq_true rfl) fun a w ht hm => ?_
  refine wp_seq ?_
  refine wpr ?_
  refine wpl rfl rfl ht (ev_assign ht rfl rfl) ?_
  intro a ht
  refine wpList_nil ?_
  refine then_normal ?_
  refine wp_seq ?_
  refine wpr ?_
  refine wpl rfl rfl ht (ev_move ht rfl rfl) ?_
  intro a ht
  refine wpl rfl rfl ht (ev_move ht rfl rfl) ?_
  intro a ht
  refine wpl rfl rfl ht (ev_min ht rfl rfl rfl) ?_
  intro a ht
  refine wpl rfl rfl ht (ev_move ht rfl rfl) ?_
  intro a ht
  refine wpl rfl rfl ht (ev_move ht rfl rfl) ?_
  intro a ht
  refine wpl rfl rfl ht (ev_max ht rfl rfl rfl) ?_
  intro a ht
  refine wpl rfl rfl ht (ev_assign ht rfl rfl) ?_
  intro a ht
  refine wpl rfl rfl ht (ev_assign ht rfl rfl) ?_
  intro a ht
  refine wpList_nil ?_
  refine then_normal ?_
  refine wp_seq ?_
  refine wpr ?_
  refine wpl rfl rfl ht (ev_move ht rfl rfl) ?_
  intro a ht
  refine wpl rfl rfl ht (ev_move ht rfl rfl) ?_
  intro a ht
  refine wpl rfl rfl ht (ev_arith ht rfl rfl rfl rfl) ?_
  intro a ht
  refine wpl rfl rfl ht (ev_arith ht rfl rfl rfl rfl) ?_
  intro a ht
  refine wpl rfl rfl ht (ev_quo ht rfl rfl rfl (by decide)) ?_
  intro a ht
  refine wpl rfl rfl ht (ev_move ht rfl rfl) ?_
  intro a ht
  refine wpl rfl rfl ht (ev_arith ht rfl rfl rfl rfl) ?_
  intro a ht
  refine wpl rfl rfl ht (ev_assign ht rfl rfl) ?_
  intro a ht
  refine wpList_nil ?_
  refine then_normal ?_
  refine wp_ret ?_
  have hres := ht.res (P := Try.prog) (w := w) (rs := [.tmp 4]) (vs := [.int .i64 (w64 ((w64 (Int.tdiv (w64 ((max i j) * (w64 ((max i j) - 1)))) 2)) + (min i j)))]) (.tmp rfl .nil)
  obtain rfl := Option.some.inj H
  exact leave ht rfl hres ⟨rfl, ((hm.pick [] rfl (by decide)).pickφ [] rfl).post fun _ h => h⟩

/-! ### impl_Colouring_at: function 118 ((*loop.example/g01362/impl.Colouring).at) -/
def impl_Colouring_at.f (x : Col) (i : Int) (j : Int) : Option (Int) := (impl_number.f i j).bind fun t1 => (getB 136 x.e t1).bind fun t2 => some (w64 t2)
set_option maxRecDepth 100000 in
set_option maxHeartbeats 1000000 in
theorem impl_Colouring_at.calls (X : List Nat) (w0 : World) (b : Nat) (x : Col) (i : Int) (j : Int) (r : Int)
    (hp : Pre X w0 [.blk b 28 (Col.cells x)] []) (H : impl_Colouring_at.f x i j = some r) :
    Calls Try.prog 118 [.pointer (some ⟨b, 0, none⟩), .int .i64 i, .int .i64 j].toArray w0 (Ret fun v w => v = .int .i64 r ∧ Post X (fps [.blk b 28 (Col.cells x)]) w0 [.blk b 28 (Col.cells x)] [] w) := by
  unfold impl_Colouring_at.f at H
  refine enterM (n := 16) hp Try.func118 rfl rfl (Nat.le_of_ble_eq_true rfl) fun a w ht hm => ?_
  refine wp_seq ?_
  refine wpr ?_
  refine wpl rfl rfl ht (ev_assign ht rfl rfl) ?_
  intro a ht
  refine wpList_nil ?_
  refine then_normal ?_
  refine wp_seq ?_
  refine wph_begin (fun w => Ms X (fps [.blk b 28 (Col.cells x)]) w0 [.blk b 28 (Col.cells x)] [] w) mixed ?_
  replace hm := hm.drew
  have hS : Ms X (fps [.blk b 28 (Col.cells x)]) w0 [.blk b 28 (Col.cells x)] [] w.drew := (hm.pick [0] rfl (by decide)).pickφ [] rfl
  generalize w.drew = w at hm hS ⊢
  refine wph_take (i := 0) rfl (by kernel_rfl) (by kernel_rfl) (by kernel_rfl) (fun _ _ _ h => h) rfl ht hS (wanted_plain rfl) (fun w hm => ev_move ht rfl rfl) ?_
  intro a ht
  refine wph_take (i := 1) rfl (by kernel_rfl) (by kernel_rfl) (by kernel_rfl) (fun _ _ _ h => h) rfl ht hS (wanted_plain rfl) (fun w hm => ev_move ht rfl rfl) ?_
  intro a ht
  refine wph_take (i := 2) rfl (by kernel_rfl) (by kernel_rfl) (by kernel_rfl) (fun _ _ _ h => h) rfl ht hS (wanted_plain rfl) (fun w hm => ev_move ht rfl rfl) ?_
  intro a ht
  refine wph_take (i := 4) rfl (by kernel_rfl) (by kernel_rfl) (by kernel_rfl) (fun _ _ _ h => h) rfl ht hS (wanted_plain rfl) (fun w hm => ev_nilCheck ht rfl rfl) ?_
  intro a ht
  refine wph_take (i := 5) rfl (by kernel_rfl) (by kernel_rfl) (by kernel_rfl) (fun _ _ _ h => h) rfl ht hS (wanted_plain rfl) (fun w hm => ev_fieldAddr ht rfl rfl fo_28_2) ?_
  intro a ht
  refine wph_one (i := 3) (by kernel_rfl) (wph_step rfl ?_)
  obtain ⟨t1, et1, H⟩ := bind_get H
  have hcall := impl_number.calls _ _ i j _ ((fun (hq : Ms _ _ _ ([] ++ [.blk b 28 (Col.cells x)]) _ _) => hq.lend (φp := []) (allRO_nil)) (hm.pick (own' := [] ++ [.blk b 28 (Col.cells x)]) [0] rfl (by decide))) et1
  refine wpl_call _ rfl rfl ht rfl rfl rfl rfl can_127 hcall ?_
  clear hcall
  rintro _ w ⟨rfl, hpost⟩ a ht
  replace hm := (hm.pick (own' := [] ++ [.blk b 28 (Col.cells x)]) [0] rfl (by decide)).backL hpost
  clear hpost
  have hS : Ms X (fps [.blk b 28 (Col.cells x)]) w0 [.blk b 28 (Col.cells x)] [] w := (hm.pick [0] rfl (by decide)).pickφ [] rfl
  refine wpList_nil (qn ⟨hS, ?_⟩)
  obtain ⟨t2, et2, H⟩ := bind_get H
  refine wph_take (i := 6) rfl (by kernel_rfl) (by kernel_rfl) (by kernel_rfl) (fun _ _ _ h => h) rfl ht hS (wanted_plain rfl) (fun w hm => ev_indexAddr_arr ht rfl rfl rfl ar_22 (getB_lo et2) (getB_hi et2)) ?_
  intro a ht
  refine wph_take (i := 7) rfl (by kernel_rfl) (by kernel_rfl) (by kernel_rfl) (fun _ _ _ h => h) rfl ht hS (wanted_plain rfl) (fun w hm => ev_load ht rfl rfl sc_5 (hm.blk_cell 0 rfl (Col.get et2))) ?_
  intro a ht
  refine wph_take (i := 8) rfl (by kernel_rfl) (by kernel_rfl) (by kernel_rfl) (fun _ _ _ h => h) rfl ht hS (wanted_plain rfl) (fun w hm => ev_convert ht rfl rfl und_5 und_2) ?_
  intro a ht
  refine wph_take (i := 9) rfl (by kernel_rfl) (by kernel_rfl) (by kernel_rfl) (fun _ _ _ h => h) rfl ht hS (wanted_plain rfl) (fun w hm => ev_assign ht rfl rfl) ?_
  intro a ht
  refine wph_done (by kernel_rfl) ?_
  refine then_normal ?_
  refine wp_ret ?_
  have hres := ht.res (P := Try.prog) (w := w) (rs := [.tmp 6]) (vs := [.int .i64 (w64 t2)]) (.tmp rfl .nil)
  obtain rfl := Option.some.inj H
  exact leave ht rfl hres ⟨rfl, ((hm.pick [0] rfl (by decide)).pickφ [] rfl).post fun _ h => h⟩

/-! ### impl_Colouring_joins: function 121 ((*loop.example/g01362/impl.Colouring).joins) -/
def impl_Colouring_joins.f (x : Col) (i : Int) (j : Int) (c : Int) : Option (Bool) := if i ≠ j then ((impl_Colouring_at.f x i j).bind fun t2 => some (decide (t2 = c))) else (some false)
set_option maxRecDepth 100000 in
set_option maxHeartbeats 1000000 in
theorem impl_Colouring_joins.calls (X : List Nat) (w0 : World) (b : Nat) (x : Col) (i : Int) (j : Int) (c : Int) (r : Bool)
    (hp : Pre X w0 [.blk b 28 (Col.cells x)] []) (H : impl_Colouring_joins.f x i j c = some r) :
    Calls Try.prog 121 [.pointer (some ⟨b, 0, none⟩), .int .i64 i, .int .i64 j, .int .i64 c].toArray w0 (Ret fun v w => v = .bool r ∧ Post X (fps [.blk b 28 (Col.cells x)]) w0 [.blk b 28 (Col.cells x)] [] w) := by
  unfold impl_Colouring_joins.f at H
  refine enterM (n := 20) hp Try.func121 rfl rfl (Nat.le_of_ble_eq_true rfl) fun a w ht hm => ?_
  refine wp_seq ?_
  refine wpr ?_
  refine wpl rfl rfl ht (ev_assign ht rfl rfl) ?_
  intro a ht
  refine wpList_nil ?_
  refine then_normal ?_
  refine wp_seq ?_
  refine wpr ?_
  refine wpl rfl rfl ht (ev_move ht rfl rfl) ?_
  intro a ht
  refine wpl rfl rfl ht (ev_move ht rfl rfl) ?_
  intro a ht
  refine wpl rfl rfl ht (ev_cmp ht rfl rfl rfl rfl) ?_
  intro a ht
  refine wpl rfl rfl ht (ev_move ht rfl rfl) ?_
  intro a ht
  by_cases h1 : i ≠ j
  · replace H := ite_yes h1 H
    refine wpl_yes rfl ht rfl ((decide_eq_true h1)) ?_
    refine wpl rfl rfl ht (ev_move ht rfl rfl) ?_
    intro a ht
    refine wpl_yes rfl ht rfl ((decide_eq_true h1)) ?_
    refine wpl rfl rfl ht (ev_move ht rfl rfl) ?_
    intro a ht
    refine wpl_yes rfl ht rfl ((decide_eq_true h1)) ?_
    refine wpl rfl rfl ht (ev_move ht rfl rfl) ?_
    intro a ht
    refine wpl_yes rfl ht rfl ((decide_eq_true h1)) ?_
    obtain ⟨t2, et2, H⟩ := bind_get H
    have hcall := impl_Colouring_at.calls _ _ b x i j _ ((fun (hq : Ms _ _ _ ([.blk b 28 (Col.cells x)] ++ []) _ _) => hq.lend (φp := []) (allRO_nil)) (hm.pick (own' := [.blk b 28 (Col.cells x)] ++ []) [0] rfl (by decide))) et2
    refine wpl_call _ rfl rfl ht rfl rfl rfl rfl can_118 hcall ?_
    clear hcall
    rintro _ w ⟨rfl, hpost⟩ a ht
    replace hm := (hm.pick (own' := [.blk b 28 (Col.cells x)] ++ []) [0] rfl (by decide)).backL hpost
    clear hpost
    refine wpl_yes rfl ht rfl ((decide_eq_true h1)) ?_
    refine wpl rfl rfl ht (ev_move ht rfl rfl) ?_
    intro a ht
    refine wpl_yes rfl ht rfl ((decide_eq_true h1)) ?_
    refine wpl rfl rfl ht (ev_cmp ht rfl rfl rfl rfl) ?_
    intro a ht
    refine wpl rfl rfl ht (ev_pick_yes ht rfl rfl (decide_eq_true h1) rfl) ?_
    intro a ht
    refine wpl rfl rfl ht (ev_assign ht rfl rfl) ?_
    intro a ht
    refine wpList_nil ?_
    refine then_normal ?_
    refine wp_ret ?_
    have hres := ht.res (P := Try.prog) (w := w) (rs := [.tmp 8]) (vs := [.bool (decide (t2 = c))]) (.tmp rfl .nil)
    obtain rfl := Option.some.inj H
    exact leave ht rfl hres ⟨rfl, ((hm.pick [0] rfl (by decide)).pickφ [] rfl).post fun _ h => h⟩
  · replace H := ite_no h1 H
    refine wpl_no rfl rfl ht rfl (by rw [(decide_eq_false h1)]; decide) ?_
    intro a ht
    refine wpl_no rfl rfl ht rfl (by rw [(decide_eq_false h1)]; decide) ?_
    intro a ht
    refine wpl_no rfl rfl ht rfl (by rw [(decide_eq_false h1)]; decide) ?_
    intro a ht
    refine wpl_no rfl rfl ht rfl (by rw [(decide_eq_false h1)]; decide) ?_
    intro a ht
    refine wpl_no rfl rfl ht rfl (by rw [(decide_eq_false h1)]; decide) ?_
    intro a ht
    refine wpl_no rfl rfl ht rfl (by rw [(decide_eq_false h1)]; decide) ?_
    intro a ht
    refine wpl rfl rfl ht (ev_pick_no ht rfl rfl (decide_eq_false h1) rfl) ?_
    intro a ht
    refine wpl rfl rfl ht (ev_assign ht rfl rfl) ?_
    intro a ht
    refine wpList_nil ?_
    refine then_normal ?_
    refine wp_ret ?_
    have hres := ht.res (P := Try.prog) (w := w) (rs := [.tmp 8]) (vs := [.bool false]) (.tmp rfl .nil)
    obtain rfl := Option.some.inj H
    exact leave ht rfl hres ⟨rfl, ((hm.pick [0] rfl (by decide)).pickφ [] rfl).post fun _ h => h⟩

/-! ### impl_Colouring_goesWith_1: function 120 ((*loop.example/g01362/impl.Colouring).goesWith$1) -/
def impl_Colouring_goesWith_1.f (i : Int) (x : Col) (x2 : Int) (x3 : Int) : Option (Bool) := (impl_Colouring_joins.f x i x2 x3).bind fun t1 => some !t1
set_option maxRecDepth 100000 in
set_option maxHeartbeats 1000000 in
theorem impl_Colouring_goesWith_1.calls (X : List Nat) (w0 : World) (b : Nat) (b2 : Nat) (b3 : Nat) (b4 : Nat) (i : Int) (x : Col) (x2 : Int) (x3 : Int) (r : Bool)
    (hp : Pre X w0 [.blk b 87 [.pointer (some ⟨b2, 0, none⟩)], .blk b2 28 (Col.cells x), .blk b3 2 [.int .i64 x2], .blk b4 2 [.int .i64 x3]] []) (H : impl_Colouring_goesWith_1.f i x x2 x3 = some r) :
    Calls Try.prog 120 [.int .i64 i, .pointer (some ⟨b, 0, none⟩), .pointer (some ⟨b3, 0, none⟩), .pointer (some ⟨b4, 0, none⟩)].toArray w0 (Ret fun v w => v = .bool r ∧ Post X (fps [.blk b 87 [.pointer (some ⟨b2, 0, none⟩)], .blk b2 28 (Col.cells x), .blk b3 2 [.int .i64 x2], .blk b4 2 [.int .i64 x3]]) w0 [.blk b 87 [.pointer (some ⟨b2, 0, none⟩)], .blk b2 28 (Col.cells x), .blk b3 2 [.int .i64 x2], .blk b4 2 [.int .i64 x3]] [] w) := by
  unfold impl_Colouring_goesWith_1.f at H
  refine enterM (n := 12) hp Try.func120 rfl rfl (Nat.le_of_ble_eq_true rfl) fun a w ht hm => ?_
  refine wp_seq ?_
  refine wpr ?_
  refine wpl rfl rfl ht (ev_assign ht rfl rfl) ?_
  intro a ht
  refine wpList_nil ?_
  refine then_normal ?_
  refine wp_seq ?_
  refine wpr ?_
  refine wpl rfl rfl ht (ev_load ht rfl rfl sc_87 (hm.blk_cell 0 rfl rfl)) ?_
  intro a ht
  refine wpl rfl rfl ht (ev_move ht rfl rfl) ?_
  intro a ht
  refine wpl rfl rfl ht (ev_load ht rfl rfl sc_2 (hm.blk_cell 2 rfl rfl)) ?_
  intro a ht
  refine wpl rfl rfl ht (ev_load ht rfl rfl sc_2 (hm.blk_cell 3 rfl rfl)) ?_
  intro a ht
  obtain ⟨t1, et1, H⟩ := bind_get H
  have hcall := impl_Colouring_joins.calls _ _ b2 x i x2 x3 _ ((fun (hq : Ms _ _ _ ([.blk b2 28 (Col.cells x)] ++ [.blk b 87 [.pointer (some ⟨b2, 0, none⟩)], .blk b3 2 [.int .i64 x2], .blk b4 2 [.int .i64 x3]]) _ _) => hq.lend (φp := []) (allRO_nil)) (hm.pick (own' := [.blk b2 28 (Col.cells x)] ++ [.blk b 87 [.pointer (some ⟨b2, 0, none⟩)], .blk b3 2 [.int .i64 x2], .blk b4 2 [.int .i64 x3]]) [1, 0, 2, 3] rfl (by decide))) et1
  refine wpl_call _ rfl rfl ht rfl rfl rfl rfl can_121 hcall ?_
  clear hcall
  rintro _ w ⟨rfl, hpost⟩ a ht
  replace hm := (hm.pick (own' := [.blk b2 28 (Col.cells x)] ++ [.blk b 87 [.pointer (some ⟨b2, 0, none⟩)], .blk b3 2 [.int .i64 x2], .blk b4 2 [.int .i64 x3]]) [1, 0, 2, 3] rfl (by decide)).backL hpost
  clear hpost
  refine wpl rfl rfl ht (ev_not ht rfl rfl) ?_
  intro a ht
  refine wpl rfl rfl ht (ev_assign ht rfl rfl) ?_
  intro a ht
  refine wpList_nil ?_
  refine then_normal ?_
  refine wp_ret ?_
  have hres := ht.res (P := Try.prog) (w := w) (rs := [.tmp 5]) (vs := [.bool !t1]) (.tmp rfl .nil)
  obtain rfl := Option.some.inj H
  exact leave ht rfl hres ⟨rfl, ((hm.pick [1, 0, 2, 3] rfl (by decide)).pickφ [] rfl).post fun _ h => h⟩

end Go.Proofs.Ytdpamdedomkomaa.G
