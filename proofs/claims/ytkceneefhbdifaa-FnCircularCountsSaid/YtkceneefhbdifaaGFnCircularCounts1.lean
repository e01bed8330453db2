/- What each Go function computes, as a Lean function, and the proof that it does: written by a program of this session (wip/gen), part 1. -/
import Derived.Test.YtkceneefhbdifaaGFnCircularCounts0
namespace Go.Proofs.Ytkceneefhbdifaa.G
open Go Go.RowKit Go.Proofs.Ytkceneefhbdifaa.K
set_option linter.unusedVariables false
set_option linter.unusedSimpArgs false

/-! ### laws_big: function 4 (loop.example/g01362/laws.big) -/
def laws_big.f (code : List Int) : Option (Bool) := some (decide ((code.length : Int) > 4096))
set_option maxRecDepth 100000 in
set_option maxHeartbeats 20000000 in
theorem laws_big.calls (X : List Nat) (w0 : World) (A : Option Addr) (c : Nat) (m : Nat) (code : List Int) (r : Bool)
    (hp : Pre X w0 [] [Bytes8At A c m code]) (H : laws_big.f code = some r) :
    Calls Try.prog 4 [.slice A m c].toArray w0 (Ret fun v w => v = .bool r ∧ Post X (fps []) w0 [] [] w) := by
  unfold laws_big.f at H
  refine enterM (n := 6) hp Try.func4 rfl rfl (Nat.le_of_ble_eq_true rfl) fun a w ht hm => ?_
  refine wp_seq ?_
  refine wpr ?_
  refine wpl rfl rfl ht (ev_assign ht rfl rfl) ?_
  intro a ht
  refine wpList_nil ?_
  refine then_normal ?_
  refine wp_seq ?_
  refine wpr ?_
  refine wpl rfl rfl ht (ev_move ht rfl rfl) ?_
  intro a ht
  refine wpl rfl rfl ht (ev_len_of8 ht rfl rfl und_22 (hm.fact (φ := Bytes8At A c m code) 0 rfl)) ?_
  intro a ht
  refine wpl rfl rfl ht (ev_cmp ht rfl rfl rfl rfl) ?_
  intro a ht
  refine wpl rfl rfl ht (ev_assign ht rfl rfl) ?_
  intro a ht
  refine wpList_nil ?_
  refine then_normal ?_
  refine wp_ret ?_
  have hres := ht.res (P := Try.prog) (w := w) (rs := [.tmp 2]) (vs := [.bool (decide ((code.length : Int) > 4096))]) (.tmp rfl .nil)
  obtain rfl := Option.some.inj H
  exact leave ht rfl hres ⟨rfl, ((hm.pick [] rfl (by decide)).pickφ [] rfl).post fun _ h => h⟩

/-! ### spec_l01From: function 15 (loop.example/g01362/spec.l01From) -/
def spec_l01From.l0 : Nat → List Int → List Int → Int → Int → Int → Option (List Int × Int × Int)
  | 0, _, _, _, _, _ => none
  | q2 + 1, code, ls0_4, xs0_5, xs0_6, xs0_7 => if xs0_7 < (code.length : Int) then (if xs0_7 < 4096 then ((getI code xs0_7).bind fun t5 => spec_l01From.l0 q2 code ls0_4 xs0_5 (wu64 ((wu64 ((wu64 (xs0_6 * 1099511628211)) + (wu64 t5))) + 193)) (w64 (xs0_7 + 1))) else (some (ls0_4, xs0_5, xs0_6))) else (some (ls0_4, xs0_5, xs0_6))
def spec_l01From.f (k : Nat) (code : List Int) : Option (List Int × Int × Int) := spec_l01From.l0 k code code 0 (wu64 (13621 + (wu64 (code.length : Int)))) 0
set_option maxRecDepth 100000 in
set_option maxHeartbeats 20000000 in
theorem spec_l01From.calls (k : Nat) (X : List Nat) (w0 : World) (A : Option Addr) (c : Nat) (m : Nat) (code : List Int) (r : List Int × Int × Int)
    (hp : Pre X w0 [] [Bytes8At A c m code]) (H : spec_l01From.f k code = some r) :
    Calls Try.prog 15 [.slice A m c].toArray w0 (Ret fun v w => ∃ (b_0 : Nat) (A_0 : Option Addr) (c_0 : Nat) (n_0 : Nat), v = .pointer (some ⟨b_0, 0, none⟩) ∧ Post X (fps []) w0 [.blk b_0 58 [.slice A_0 n_0 c_0, .int .i64 r.2.1, .int .u64 r.2.2]] [Bytes8At A_0 c_0 n_0 r.1] w) := by
  unfold spec_l01From.f at H
  refine enterM (n := 38) hp Try.func15 rfl rfl (Nat.le_of_ble_eq_true rfl) fun a w ht hm => ?_
  refine wp_seq ?_
  refine wpr ?_
  refine wpl rfl rfl ht (ev_assign ht rfl rfl) ?_
  intro a ht
  refine wpList_nil ?_
  refine then_normal ?_
  refine wp_seq ?_
  refine wpr ?_
  refine wpl rfl rfl ht (ev_move ht rfl rfl) ?_
  intro a ht
  refine wpl rfl rfl ht (ev_move ht rfl rfl) ?_
  intro a ht
  refine wpl rfl rfl ht (ev_len_of8 ht rfl rfl und_22 (hm.fact (φ := Bytes8At A c m code) 0 rfl)) ?_
  intro a ht
  refine wpl rfl rfl ht (ev_convert ht rfl rfl und_3 und_56) ?_
  intro a ht
  refine wpl rfl rfl ht (ev_arith ht rfl rfl rfl rfl) ?_
  intro a ht
  refine wpl rfl rfl ht (ev_build (vs := [.slice A m c, .int .i64 0, .int .u64 (wu64 (13621 + (wu64 (code.length : Int))))]) ht rfl bi_58 rfl rfl) ?_
  intro a ht
  refine wpl_box rfl rfl ht hm rfl rfl rfl ?_
  intro b1 a ht w hm
  refine wpl rfl rfl ht (ev_assign ht rfl rfl) ?_
  intro a ht
  refine wpList_nil ?_
  refine then_normal ?_
  refine wp_seq ?_
  refine wp_seq ?_
  refine wpr ?_
  refine wpl rfl rfl ht (ev_assign ht rfl rfl) ?_
  intro a ht
  refine wpList_nil ?_
  refine then_normal ?_
  refine wp_block ?_
  refine wpLoop (fun q a w => ∃ (ls0_4 : List Int) (xs0_5 : Int) (xs0_6 : Int) (xs0_7 : Int) (As0_1 : Option Addr) (cs0_2 : Nat) (ms0_3 : Nat), spec_l01From.l0 q code ls0_4 xs0_5 xs0_6 xs0_7 = some r ∧ q ≤ k ∧ Tm 38 [(0, .slice A m c), (2, .pointer none), (3, .pointer (some ⟨b1, 0, none⟩)), (4, .int .i64 xs0_7)] a ∧ Ms X (fps []) w0 [.blk b1 58 [.slice As0_1 ms0_3 cs0_2, .int .i64 xs0_5, .int .u64 xs0_6]] [Bytes8At A c m code, Bytes8At As0_1 cs0_2 ms0_3 ls0_4] w) (k0 := k) ⟨code, 0, (wu64 (13621 + (wu64 (code.length : Int)))), 0, A, c, m, H, Nat.le_refl _, ht.sub ⟨rfl, rfl, rfl, rfl, trivial⟩, (hm.pick [0] rfl (by decide)).pickφ [0, 0] rfl⟩ ?_
  clear H ht hm
  intro q2 a w hJ
  obtain ⟨ls0_4, xs0_5, xs0_6, xs0_7, As0_1, cs0_2, ms0_3, H, hqq2, ht, hm⟩ := hJ
  cases q2 with
  | zero => cases H
  | succ q2 =>
  rw [spec_l01From.l0] at H
  refine wp_seq ?_
  refine wp_seq ?_
  refine wpr ?_
  refine wpl rfl rfl ht (ev_move ht rfl rfl) ?_
  intro a ht
  refine wpl rfl rfl ht (ev_move ht rfl rfl) ?_
  intro a ht
  refine wpl rfl rfl ht (ev_len_of8 ht rfl rfl und_22 (hm.fact (φ := Bytes8At A c m code) 0 rfl)) ?_
  intro a ht
  refine wpl rfl rfl ht (ev_cmp ht rfl rfl rfl rfl) ?_
  intro a ht
  refine wpl rfl rfl ht (ev_move ht rfl rfl) ?_
  intro a ht
  by_cases h3 : xs0_7 < (code.length : Int)
  · replace H := ite_yes h3 H
    refine wpl_yes rfl ht rfl ((decide_eq_true h3)) ?_
    refine wpl rfl rfl ht (ev_move ht rfl rfl) ?_
    intro a ht
    refine wpl_yes rfl ht rfl ((decide_eq_true h3)) ?_
    refine wpl rfl rfl ht (ev_cmp ht rfl rfl rfl rfl) ?_
    intro a ht
    refine wpl rfl rfl ht (ev_pick_yes ht rfl rfl (decide_eq_true h3) rfl) ?_
    intro a ht
    refine wpList_nil ?_
    refine then_normal ?_
    by_cases h4 : xs0_7 < 4096
    · replace H := ite_yes h4 H
      refine wpc_yes ht rfl (decide_eq_true h4) ?_
      refine wp_skip ?_
      refine then_normal ?_
      refine wp_seq ?_
      refine wp_block ?_
      refine wph_begin (fun w => Ms X (fps []) w0 [] [Bytes8At A c m code, Bytes8At As0_1 cs0_2 ms0_3 ls0_4] w) mixed ?_
      replace hm := hm.drew
      have hS : Ms X (fps []) w0 [] [Bytes8At A c m code, Bytes8At As0_1 cs0_2 ms0_3 ls0_4] w.drew := (hm.pick [] rfl (by decide)).pickφ [0, 1] rfl
      generalize w.drew = w at hm hS ⊢
      refine wph_take (i := 0) rfl (by kernel_rfl) (by kernel_rfl) (by kernel_rfl) (fun _ _ _ h => h) rfl ht hS (wanted_plain rfl) (fun w hm => ev_move ht rfl rfl) ?_
      intro a ht
      refine wph_take (i := 1) rfl (by kernel_rfl) (by kernel_rfl) (by kernel_rfl) (fun _ _ _ h => h) rfl ht hS (wanted_plain rfl) (fun w hm => ev_move ht rfl rfl) ?_
      intro a ht
      refine wph_take (i := 2) rfl (by kernel_rfl) (by kernel_rfl) (by kernel_rfl) (fun _ _ _ h => h) rfl ht hS (wanted_plain rfl) (fun w hm => ev_nilCheck ht rfl rfl) ?_
      intro a ht
      refine wph_take (i := 3) rfl (by kernel_rfl) (by kernel_rfl) (by kernel_rfl) (fun _ _ _ h => h) rfl ht hS (wanted_plain rfl) (fun w hm => ev_fieldAddr ht rfl rfl fo_58_2) ?_
      intro a ht
      refine wph_take (i := 6) rfl (by kernel_rfl) (by kernel_rfl) (by kernel_rfl) (fun _ _ _ h => h) rfl ht hS (wanted_plain rfl) (fun w hm => ev_move ht rfl rfl) ?_
      intro a ht
      refine wph_take (i := 7) rfl (by kernel_rfl) (by kernel_rfl) (by kernel_rfl) (fun _ _ _ h => h) rfl ht hS (wanted_plain rfl) (fun w hm => ev_move ht rfl rfl) ?_
      intro a ht
      obtain ⟨t5, et5, H⟩ := bind_get H
      refine wph_take (i := 8) rfl (by kernel_rfl) (by kernel_rfl) (by kernel_rfl) (fun _ _ _ h => h) rfl ht hS (wanted_plain rfl) (fun w hm => ev_index_ints8 ht rfl rfl rfl so_22 (hm.fact (φ := Bytes8At A c m code) 0 rfl) et5) ?_
      intro a ht
      refine wph_take (i := 9) rfl (by kernel_rfl) (by kernel_rfl) (by kernel_rfl) (fun _ _ _ h => h) rfl ht hS (wanted_plain rfl) (fun w hm => ev_load ht rfl rfl sc_5 (RowAt.cell (hm.fact (φ := Bytes8At A c m code) 0 rfl) (ints8_get et5) rfl)) ?_
      intro a ht
      refine wph_take (i := 10) rfl (by kernel_rfl) (by kernel_rfl) (by kernel_rfl) (fun _ _ _ h => h) rfl ht hS (wanted_plain rfl) (fun w hm => ev_convert ht rfl rfl und_5 und_56) ?_
      intro a ht
      refine wph_one (i := 4) (by kernel_rfl) (wph_step rfl ?_)
      refine wpl rfl rfl ht (ev_load ht rfl rfl sc_56 (hm.blk_cell 0 rfl rfl)) ?_
      intro a ht
      have hS : Ms X (fps []) w0 [] [Bytes8At A c m code, Bytes8At As0_1 cs0_2 ms0_3 ls0_4] w := (hm.pick [] rfl (by decide)).pickφ [0, 1] rfl
      refine wpList_nil (qn ⟨hS, ?_⟩)
      refine wph_take (i := 5) rfl (by kernel_rfl) (by kernel_rfl) (by kernel_rfl) (fun _ _ _ h => h) rfl ht hS (wanted_plain rfl) (fun w hm => ev_arith ht rfl rfl rfl rfl) ?_
      intro a ht
      refine wph_take (i := 11) rfl (by kernel_rfl) (by kernel_rfl) (by kernel_rfl) (fun _ _ _ h => h) rfl ht hS (wanted_plain rfl) (fun w hm => ev_arith ht rfl rfl rfl rfl) ?_
      intro a ht
      refine wph_take (i := 12) rfl (by kernel_rfl) (by kernel_rfl) (by kernel_rfl) (fun _ _ _ h => h) rfl ht hS (wanted_plain rfl) (fun w hm => ev_arith ht rfl rfl rfl rfl) ?_
      intro a ht
      refine wph_take (i := 13) rfl (by kernel_rfl) (by kernel_rfl) (by kernel_rfl) (fun _ _ _ h => h) rfl ht hS (wanted_plain rfl) (fun w hm => ev_nilCheck ht rfl rfl) ?_
      intro a ht
      refine wph_take (i := 14) rfl (by kernel_rfl) (by kernel_rfl) (by kernel_rfl) (fun _ _ _ h => h) rfl ht hS (wanted_plain rfl) (fun w hm => ev_fieldAddr ht rfl rfl fo_58_2) ?_
      intro a ht
      refine wph_one (i := 15) (by kernel_rfl) (wph_step rfl ?_)
      refine wpl_store_blk 0 rfl rfl ht hm rfl rfl rfl sz1_56 rfl rfl rfl ?_
      intro a ht w hm
      have hS : Ms X (fps []) w0 [] [Bytes8At A c m code, Bytes8At As0_1 cs0_2 ms0_3 ls0_4] w := (hm.pick [] rfl (by decide)).pickφ [0, 1] rfl
      refine wpList_nil (qn ⟨hS, ?_⟩)
      refine wph_done (by kernel_rfl) ?_
      refine blk_normal ?_
      refine then_normal ?_
      refine wpr ?_
      refine wpl rfl rfl ht (ev_move ht rfl rfl) ?_
      intro a ht
      refine wpl rfl rfl ht (ev_arith ht rfl rfl rfl rfl) ?_
      intro a ht
      refine wpl rfl rfl ht (ev_assign ht rfl rfl) ?_
      intro a ht
      refine wpList_nil ?_
      exact then_normal ⟨q2, by omega, ls0_4, xs0_5, (wu64 ((wu64 ((wu64 (xs0_6 * 1099511628211)) + (wu64 t5))) + 193)), (w64 (xs0_7 + 1)), As0_1, cs0_2, ms0_3, H, by omega, ht.sub ⟨rfl, rfl, rfl, rfl, trivial⟩, (hm.pick [0] rfl (by decide)).pickφ [0, 1] rfl⟩
    · replace H := ite_no h4 H
      refine wpc_no ht rfl (decide_eq_false h4) ?_
      refine wp_exit ?_
      refine then_exit ?_
      refine then_exit ?_
      refine blk_hit ?_
      refine then_normal ?_
      refine wp_seq ?_
      refine wpr ?_
      refine wpl rfl rfl ht (ev_move ht rfl rfl) ?_
      intro a ht
      refine wpl rfl rfl ht (ev_assign ht rfl rfl) ?_
      intro a ht
      refine wpList_nil ?_
      refine then_normal ?_
      refine wp_ret ?_
      have hres := ht.res (P := Try.prog) (w := w) (rs := [.tmp 2]) (vs := [.pointer (some ⟨b1, 0, none⟩)]) (.tmp rfl .nil)
      obtain rfl := Option.some.inj H
      exact leave ht rfl hres ⟨b1, As0_1, cs0_2, ms0_3, rfl, ((hm.pick [0] rfl (by decide)).pickφ [1] rfl).post fun _ h => h⟩
  · replace H := ite_no h3 H
    refine wpl_no rfl rfl ht rfl (by rw [(decide_eq_false h3)]; decide) ?_
    intro a ht
    refine wpl_no rfl rfl ht rfl (by rw [(decide_eq_false h3)]; decide) ?_
    intro a ht
    refine wpl rfl rfl ht (ev_pick_no ht rfl rfl (decide_eq_false h3) rfl) ?_
    intro a ht
    refine wpList_nil ?_
    refine then_normal ?_
    refine wpc_no ht rfl rfl ?_
    refine wp_exit ?_
    refine then_exit ?_
    refine then_exit ?_
    refine blk_hit ?_
    refine then_normal ?_
    refine wp_seq ?_
    refine wpr ?_
    refine wpl rfl rfl ht (ev_move ht rfl rfl) ?_
    intro a ht
    refine wpl rfl rfl ht (ev_assign ht rfl rfl) ?_
    intro a ht
    refine wpList_nil ?_
    refine then_normal ?_
    refine wp_ret ?_
    have hres := ht.res (P := Try.prog) (w := w) (rs := [.tmp 2]) (vs := [.pointer (some ⟨b1, 0, none⟩)]) (.tmp rfl .nil)
    obtain rfl := Option.some.inj H
    exact leave ht rfl hres ⟨b1, As0_1, cs0_2, ms0_3, rfl, ((hm.pick [0] rfl (by decide)).pickφ [1] rfl).post fun _ h => h⟩

/-! ### spec_l01Next: function 30 (loop.example/g01362/spec.l01Next) -/
def spec_l01Next.f (s : List Int) (s2 : Int) (s3 : Int) (n_ : Int) : Option (Int × List Int × Int × Int) := if n_ < 1 then (some (0, s, s2, s3)) else (if s2 < (s.length : Int) then ((getI s s2).bind fun t3 => (guardO (n_ ≠ 0)).bind fun _ => some (Int.tmod (w64 ((w64 (bitop .and .u64 (shrI .u64 (wu64 ((wu64 (s3 * 6364136223846793005)) + 1442695040888963407)) 33) 16777215)) + (w64 t3))) n_, s, w64 (s2 + 1), wu64 ((wu64 (s3 * 6364136223846793005)) + 1442695040888963407))) else ((guardO (n_ ≠ 0)).bind fun _ => some (Int.tmod (w64 (bitop .and .u64 (shrI .u64 (wu64 ((wu64 (s3 * 6364136223846793005)) + 1442695040888963407)) 33) 16777215)) n_, s, s2, wu64 ((wu64 (s3 * 6364136223846793005)) + 1442695040888963407))))
set_option maxRecDepth 100000 in
set_option maxHeartbeats 20000000 in
theorem spec_l01Next.calls (X : List Nat) (w0 : World) (b : Nat) (A : Option Addr) (c : Nat) (m : Nat) (s : List Int) (s2 : Int) (s3 : Int) (n_ : Int) (r : Int × List Int × Int × Int)
    (hp : Pre X w0 [.blk b 58 [.slice A m c, .int .i64 s2, .int .u64 s3]] [Bytes8At A c m s]) (H : spec_l01Next.f s s2 s3 n_ = some r) :
    Calls Try.prog 30 [.pointer (some ⟨b, 0, none⟩), .int .i64 n_].toArray w0 (Ret fun v w => ∃ (B_0_0 : Option Addr) (d_0_0 : Nat) (m_0_0 : Nat), v = .int .i64 r.1 ∧ Post X (fps [.blk b 58 [.slice A m c, .int .i64 s2, .int .u64 s3]]) w0 [.blk b 58 [.slice B_0_0 m_0_0 d_0_0, .int .i64 r.2.2.1, .int .u64 r.2.2.2]] [Bytes8At B_0_0 d_0_0 m_0_0 r.2.1] w) := by
  unfold spec_l01Next.f at H
  refine enterM (n := 58) hp Try.func30 rfl rfl (Nat.le_of_ble_eq_true rfl) fun a w ht hm => ?_
  refine wp_seq ?_
  refine wpr ?_
  refine wpl rfl rfl ht (ev_assign ht rfl rfl) ?_
  intro a ht
  refine wpList_nil ?_
  refine then_normal ?_
  refine wp_seq ?_
  refine wp_seq ?_
  refine wpr ?_
  refine wpl rfl rfl ht (ev_move ht rfl rfl) ?_
  intro a ht
  refine wpl rfl rfl ht (ev_cmp ht rfl rfl rfl rfl) ?_
  intro a ht
  refine wpList_nil ?_
  refine then_normal ?_
  by_cases h1 : n_ < 1
  · replace H := ite_yes h1 H
    refine wpc_yes ht rfl (decide_eq_true h1) ?_
    refine wp_seq ?_
    refine wpr ?_
    refine wpl rfl rfl ht (ev_assign ht rfl rfl) ?_
    intro a ht
    refine wpList_nil ?_
    refine then_normal ?_
    refine wp_ret ?_
    refine then_ret ?_
    have hres := ht.res (P := Try.prog) (w := w) (rs := [.tmp 4]) (vs := [.int .i64 0]) (.tmp rfl .nil)
    obtain rfl := Option.some.inj H
    exact leave ht rfl hres ⟨A, c, m, rfl, ((hm.pick [0] rfl (by decide)).pickφ [0] rfl).post fun _ h => h⟩
  · replace H := ite_no h1 H
    refine wpc_no ht rfl (decide_eq_false h1) ?_
    refine wp_skip ?_
    refine then_normal ?_
    refine wp_seq ?_
    refine wpr ?_
    refine wpl rfl rfl ht (ev_move ht rfl rfl) ?_
    intro a ht
    refine wpl rfl rfl ht (ev_move ht rfl rfl) ?_
    intro a ht
    refine wpl rfl rfl ht (ev_nilCheck ht rfl rfl) ?_
    intro a ht
    refine wpl rfl rfl ht (ev_fieldAddr ht rfl rfl fo_58_2) ?_
    intro a ht
    refine wpl rfl rfl ht (ev_load ht rfl rfl sc_56 (hm.blk_cell 0 rfl rfl)) ?_
    intro a ht
    refine wpl rfl rfl ht (ev_arith ht rfl rfl rfl rfl) ?_
    intro a ht
    refine wpl rfl rfl ht (ev_arith ht rfl rfl rfl rfl) ?_
    intro a ht
    refine wpl rfl rfl ht (ev_nilCheck ht rfl rfl) ?_
    intro a ht
    refine wpl rfl rfl ht (ev_fieldAddr ht rfl rfl fo_58_2) ?_
    intro a ht
    refine wpl_store_blk 0 rfl rfl ht hm rfl rfl rfl sz1_56 rfl rfl rfl ?_
    intro a ht w hm
    refine wpList_nil ?_
    refine then_normal ?_
    refine wp_seq ?_
    refine wpr ?_
    refine wpl rfl rfl ht (ev_move ht rfl rfl) ?_
    intro a ht
    refine wpl rfl rfl ht (ev_nilCheck ht rfl rfl) ?_
    intro a ht
    refine wpl rfl rfl ht (ev_fieldAddr ht rfl rfl fo_58_2) ?_
    intro a ht
    refine wpl rfl rfl ht (ev_load ht rfl rfl sc_56 (hm.blk_cell 0 rfl rfl)) ?_
    intro a ht
    refine wpl rfl rfl ht (ev_shr ht rfl rfl rfl (by decide)) ?_
    intro a ht
    refine wpl rfl rfl ht (ev_bit ht rfl rfl rfl rfl) ?_
    intro a ht
    refine wpl rfl rfl ht (ev_convert ht rfl rfl und_56 und_2) ?_
    intro a ht
    refine wpl rfl rfl ht (ev_assign ht rfl rfl) ?_
    intro a ht
    refine wpList_nil ?_
    refine then_normal ?_
    refine wp_seq ?_
    refine wp_seq ?_
    refine wph_begin (fun w => Ms X (fps [.blk b 58 [.slice A m c, .int .i64 s2, .int .u64 s3]]) w0 [.blk b 58 [.slice A m c, .int .i64 s2, .int .u64 (wu64 ((wu64 (s3 * 6364136223846793005)) + 1442695040888963407))]] [Bytes8At A c m s] w) mixed ?_
    replace hm := hm.drew
    have hS : Ms X (fps [.blk b 58 [.slice A m c, .int .i64 s2, .int .u64 s3]]) w0 [.blk b 58 [.slice A m c, .int .i64 s2, .int .u64 (wu64 ((wu64 (s3 * 6364136223846793005)) + 1442695040888963407))]] [Bytes8At A c m s] w.drew := (hm.pick [0] rfl (by decide)).pickφ [0] rfl
    generalize w.drew = w at hm hS ⊢
    refine wph_take (i := 0) rfl (by kernel_rfl) (by kernel_rfl) (by kernel_rfl) (fun _ _ _ h => h) rfl ht hS (wanted_plain rfl) (fun w hm => ev_move ht rfl rfl) ?_
    intro a ht
    refine wph_take (i := 1) rfl (by kernel_rfl) (by kernel_rfl) (by kernel_rfl) (fun _ _ _ h => h) rfl ht hS (wanted_plain rfl) (fun w hm => ev_nilCheck ht rfl rfl) ?_
    intro a ht
    refine wph_take (i := 2) rfl (by kernel_rfl) (by kernel_rfl) (by kernel_rfl) (fun _ _ _ h => h) rfl ht hS (wanted_plain rfl) (fun w hm => ev_fieldAddr ht rfl rfl fo_58_1) ?_
    intro a ht
    refine wph_take (i := 3) rfl (by kernel_rfl) (by kernel_rfl) (by kernel_rfl) (fun _ _ _ h => h) rfl ht hS (wanted_plain rfl) (fun w hm => ev_load ht rfl rfl sc_3 (hm.blk_cell 0 rfl rfl)) ?_
    intro a ht
    refine wph_take (i := 4) rfl (by kernel_rfl) (by kernel_rfl) (by kernel_rfl) (fun _ _ _ h => h) rfl ht hS (wanted_plain rfl) (fun w hm => ev_move ht rfl rfl) ?_
    intro a ht
    refine wph_take (i := 5) rfl (by kernel_rfl) (by kernel_rfl) (by kernel_rfl) (fun _ _ _ h => h) rfl ht hS (wanted_plain rfl) (fun w hm => ev_nilCheck ht rfl rfl) ?_
    intro a ht
    refine wph_take (i := 6) rfl (by kernel_rfl) (by kernel_rfl) (by kernel_rfl) (fun _ _ _ h => h) rfl ht hS (wanted_plain rfl) (fun w hm => ev_fieldAddr ht rfl rfl fo_58_0) ?_
    intro a ht
    refine wph_take (i := 7) rfl (by kernel_rfl) (by kernel_rfl) (by kernel_rfl) (fun _ _ _ h => h) rfl ht hS (wanted_plain rfl) (fun w hm => ev_load ht rfl rfl sc_22 (hm.blk_cell 0 rfl rfl)) ?_
    intro a ht
    refine wph_take (i := 8) rfl (by kernel_rfl) (by kernel_rfl) (by kernel_rfl) (fun _ _ _ h => h) rfl ht hS (wanted_plain rfl) (fun w hm => ev_len_of8 ht rfl rfl und_22 (hm.fact (φ := Bytes8At A c m s) 0 rfl)) ?_
    intro a ht
    refine wph_take (i := 9) rfl (by kernel_rfl) (by kernel_rfl) (by kernel_rfl) (fun _ _ _ h => h) rfl ht hS (wanted_plain rfl) (fun w hm => ev_cmp ht rfl rfl rfl rfl) ?_
    intro a ht
    refine wph_done (by kernel_rfl) ?_
    refine then_normal ?_
    by_cases h2 : s2 < (s.length : Int)
    · replace H := ite_yes h2 H
      refine wpc_yes ht rfl (decide_eq_true h2) ?_
      refine wp_seq ?_
      refine wph_begin (fun w => Ms X (fps [.blk b 58 [.slice A m c, .int .i64 s2, .int .u64 s3]]) w0 [.blk b 58 [.slice A m c, .int .i64 s2, .int .u64 (wu64 ((wu64 (s3 * 6364136223846793005)) + 1442695040888963407))]] [Bytes8At A c m s] w) mixed ?_
      replace hm := hm.drew
      have hS : Ms X (fps [.blk b 58 [.slice A m c, .int .i64 s2, .int .u64 s3]]) w0 [.blk b 58 [.slice A m c, .int .i64 s2, .int .u64 (wu64 ((wu64 (s3 * 6364136223846793005)) + 1442695040888963407))]] [Bytes8At A c m s] w.drew := (hm.pick [0] rfl (by decide)).pickφ [0] rfl
      generalize w.drew = w at hm hS ⊢
      refine wph_take (i := 0) rfl (by kernel_rfl) (by kernel_rfl) (by kernel_rfl) (fun _ _ _ h => h) rfl ht hS (wanted_plain rfl) (fun w hm => ev_move ht rfl rfl) ?_
      intro a ht
      refine wph_take (i := 1) rfl (by kernel_rfl) (by kernel_rfl) (by kernel_rfl) (fun _ _ _ h => h) rfl ht hS (wanted_plain rfl) (fun w hm => ev_move ht rfl rfl) ?_
      intro a ht
      refine wph_take (i := 2) rfl (by kernel_rfl) (by kernel_rfl) (by kernel_rfl) (fun _ _ _ h => h) rfl ht hS (wanted_plain rfl) (fun w hm => ev_nilCheck ht rfl rfl) ?_
      intro a ht
      refine wph_take (i := 3) rfl (by kernel_rfl) (by kernel_rfl) (by kernel_rfl) (fun _ _ _ h => h) rfl ht hS (wanted_plain rfl) (fun w hm => ev_fieldAddr ht rfl rfl fo_58_0) ?_
      intro a ht
      refine wph_take (i := 4) rfl (by kernel_rfl) (by kernel_rfl) (by kernel_rfl) (fun _ _ _ h => h) rfl ht hS (wanted_plain rfl) (fun w hm => ev_load ht rfl rfl sc_22 (hm.blk_cell 0 rfl rfl)) ?_
      intro a ht
      refine wph_take (i := 5) rfl (by kernel_rfl) (by kernel_rfl) (by kernel_rfl) (fun _ _ _ h => h) rfl ht hS (wanted_plain rfl) (fun w hm => ev_move ht rfl rfl) ?_
      intro a ht
      refine wph_take (i := 6) rfl (by kernel_rfl) (by kernel_rfl) (by kernel_rfl) (fun _ _ _ h => h) rfl ht hS (wanted_plain rfl) (fun w hm => ev_nilCheck ht rfl rfl) ?_
      intro a ht
      refine wph_take (i := 7) rfl (by kernel_rfl) (by kernel_rfl) (by kernel_rfl) (fun _ _ _ h => h) rfl ht hS (wanted_plain rfl) (fun w hm => ev_fieldAddr ht rfl rfl fo_58_1) ?_
      intro a ht
      refine wph_take (i := 8) rfl (by kernel_rfl) (by kernel_rfl) (by kernel_rfl) (fun _ _ _ h => h) rfl ht hS (wanted_plain rfl) (fun w hm => ev_load ht rfl rfl sc_3 (hm.blk_cell 0 rfl rfl)) ?_
      intro a ht
      obtain ⟨t3, et3, H⟩ := bind_get H
      refine wph_take (i := 9) rfl (by kernel_rfl) (by kernel_rfl) (by kernel_rfl) (fun _ _ _ h => h) rfl ht hS (wanted_plain rfl) (fun w hm => ev_index_ints8 ht rfl rfl rfl so_22 (hm.fact (φ := Bytes8At A c m s) 0 rfl) et3) ?_
      intro a ht
      refine wph_take (i := 10) rfl (by kernel_rfl) (by kernel_rfl) (by kernel_rfl) (fun _ _ _ h => h) rfl ht hS (wanted_plain rfl) (fun w hm => ev_load ht rfl rfl sc_5 (RowAt.cell (hm.fact (φ := Bytes8At A c m s) 0 rfl) (ints8_get et3) rfl)) ?_
      intro a ht
      refine wph_take (i := 11) rfl (by kernel_rfl) (by kernel_rfl) (by kernel_rfl) (fun _ _ _ h => h) rfl ht hS (wanted_plain rfl) (fun w hm => ev_convert ht rfl rfl und_5 und_2) ?_
      intro a ht
      refine wph_take (i := 12) rfl (by kernel_rfl) (by kernel_rfl) (by kernel_rfl) (fun _ _ _ h => h) rfl ht hS (wanted_plain rfl) (fun w hm => ev_arith ht rfl rfl rfl rfl) ?_
      intro a ht
      refine wph_take (i := 13) rfl (by kernel_rfl) (by kernel_rfl) (by kernel_rfl) (fun _ _ _ h => h) rfl ht hS (wanted_plain rfl) (fun w hm => ev_assign ht rfl rfl) ?_
      intro a ht
      refine wph_done (by kernel_rfl) ?_
      refine then_normal ?_
      refine wpr ?_
      refine wpl rfl rfl ht (ev_move ht rfl rfl) ?_
      intro a ht
      refine wpl rfl rfl ht (ev_move ht rfl rfl) ?_
      intro a ht
      refine wpl rfl rfl ht (ev_nilCheck ht rfl rfl) ?_
      intro a ht
      refine wpl rfl rfl ht (ev_fieldAddr ht rfl rfl fo_58_1) ?_
      intro a ht
      refine wpl rfl rfl ht (ev_load ht rfl rfl sc_3 (hm.blk_cell 0 rfl rfl)) ?_
      intro a ht
      refine wpl rfl rfl ht (ev_arith ht rfl rfl rfl rfl) ?_
      intro a ht
      refine wpl rfl rfl ht (ev_nilCheck ht rfl rfl) ?_
      intro a ht
      refine wpl rfl rfl ht (ev_fieldAddr ht rfl rfl fo_58_1) ?_
      intro a ht
      refine wpl_store_blk 0 rfl rfl ht hm rfl rfl rfl sz1_3 rfl rfl rfl ?_
      intro a ht w hm
      refine wpList_nil ?_
      refine then_normal ?_
      refine wp_seq ?_
      refine wpr ?_
      refine wpl rfl rfl ht (ev_move ht rfl rfl) ?_
      intro a ht
      refine wpl rfl rfl ht (ev_move ht rfl rfl) ?_
      intro a ht
      obtain ⟨u4, eu4, H⟩ := bind_get H
      refine wpl rfl rfl ht (ev_rem ht rfl rfl rfl (guardO_get eu4)) ?_
      intro a ht
      refine wpl rfl rfl ht (ev_assign ht rfl rfl) ?_
      intro a ht
      refine wpList_nil ?_
      refine then_normal ?_
      refine wp_ret ?_
      have hres := ht.res (P := Try.prog) (w := w) (rs := [.tmp 4]) (vs := [.int .i64 (Int.tmod (w64 ((w64 (bitop .and .u64 (shrI .u64 (wu64 ((wu64 (s3 * 6364136223846793005)) + 1442695040888963407)) 33) 16777215)) + (w64 t3))) n_)]) (.tmp rfl .nil)
      obtain rfl := Option.some.inj H
      exact leave ht rfl hres ⟨A, c, m, rfl, ((hm.pick [0] rfl (by decide)).pickφ [0] rfl).post fun _ h => h⟩
    · replace H := ite_no h2 H
      refine wpc_no ht rfl (decide_eq_false h2) ?_
      refine wp_skip ?_
      refine then_normal ?_
      refine wp_seq ?_
      refine wpr ?_
      refine wpl rfl rfl ht (ev_move ht rfl rfl) ?_
      intro a ht
      refine wpl rfl rfl ht (ev_move ht rfl rfl) ?_
      intro a ht
      obtain ⟨u5, eu5, H⟩ := bind_get H
      refine wpl rfl rfl ht (ev_rem ht rfl rfl rfl (guardO_get eu5)) ?_
      intro a ht
      refine wpl rfl rfl ht (ev_assign ht rfl rfl) ?_
      intro a ht
      refine wpList_nil ?_
      refine then_normal ?_
      refine wp_ret ?_
      have hres := ht.res (P := Try.prog) (w := w) (rs := [.tmp 4]) (vs := [.int .i64 (Int.tmod (w64 (bitop .and .u64 (shrI .u64 (wu64 ((wu64 (s3 * 6364136223846793005)) + 1442695040888963407)) 33) 16777215)) n_)]) (.tmp rfl .nil)
      obtain rfl := Option.some.inj H
      exact leave ht rfl hres ⟨A, c, m, rfl, ((hm.pick [0] rfl (by decide)).pickφ [0] rfl).post fun _ h => h⟩

/-! ### spec_l01Pick: function 31 (loop.example/g01362/spec.l01Pick) -/
def spec_l01Pick.f (s : List Int) (s2 : Int) (s3 : Int) (list : List Int) : Option (Int × List Int × Int × Int) := (spec_l01Next.f s s2 s3 (list.length : Int)).bind fun t1 => (getI list t1.1).bind fun t6 => some (t6, t1.2.1, t1.2.2.1, t1.2.2.2)
set_option maxRecDepth 100000 in
set_option maxHeartbeats 20000000 in
theorem spec_l01Pick.calls (X : List Nat) (w0 : World) (b : Nat) (A : Option Addr) (c : Nat) (m : Nat) (A2 : Option Addr) (c2 : Nat) (m2 : Nat) (s : List Int) (s2 : Int) (s3 : Int) (list : List Int) (r : Int × List Int × Int × Int)
    (hp : Pre X w0 [.blk b 58 [.slice A m c, .int .i64 s2, .int .u64 s3]] [Bytes8At A c m s, IntsAt A2 c2 m2 list]) (H : spec_l01Pick.f s s2 s3 list = some r) :
    Calls Try.prog 31 [.pointer (some ⟨b, 0, none⟩), .slice A2 m2 c2].toArray w0 (Ret fun v w => ∃ (B_0_0 : Option Addr) (d_0_0 : Nat) (m_0_0 : Nat), v = .int .i64 r.1 ∧ Post X (fps [.blk b 58 [.slice A m c, .int .i64 s2, .int .u64 s3]]) w0 [.blk b 58 [.slice B_0_0 m_0_0 d_0_0, .int .i64 r.2.2.1, .int .u64 r.2.2.2]] [Bytes8At B_0_0 d_0_0 m_0_0 r.2.1] w) := by
  unfold spec_l01Pick.f at H
  refine enterM (n := 12) hp Try.func31 rfl rfl (Nat.le_of_ble_eq_true rfl) fun a w ht hm => ?_
  refine wp_seq ?_
  refine wpr ?_
  refine wpl rfl rfl ht (ev_assign ht rfl rfl) ?_
  intro a ht
  refine wpList_nil ?_
  refine then_normal ?_
  refine wp_seq ?_
  refine wpr ?_
  refine wpl rfl rfl ht (ev_move ht rfl rfl) ?_
  intro a ht
  refine wpl rfl rfl ht (ev_move ht rfl rfl) ?_
  intro a ht
  refine wpl rfl rfl ht (ev_move ht rfl rfl) ?_
  intro a ht
  refine wpl rfl rfl ht (ev_len_of ht rfl rfl und_24 (hm.fact (φ := IntsAt A2 c2 m2 list) 1 rfl)) ?_
  intro a ht
  obtain ⟨t1, et1, H⟩ := bind_get H
  have hcall := spec_l01Next.calls _ _ b A c m s s2 s3 (list.length : Int) _ ((hm.pick (own' := [.blk b 58 [.slice A m c, .int .i64 s2, .int .u64 s3]] ++ []) [0] rfl (by decide)).give (passed := [.blk b 58 [.slice A m c, .int .i64 s2, .int .u64 s3]]) (rest := []) (φp := [Bytes8At A c m s]) [0] rfl) et1
  refine wpl_call _ rfl rfl ht rfl rfl rfl rfl can_30 hcall ?_
  clear hcall
  rintro _ w ⟨A3, c4, m5, rfl, hpost⟩ a ht
  replace hm := (hm.pick (own' := [.blk b 58 [.slice A m c, .int .i64 s2, .int .u64 s3]] ++ []) [0] rfl (by decide)).back hpost
  clear hpost
  obtain ⟨t6, et6, H⟩ := bind_get H
  refine wpl rfl rfl ht (ev_index_ints ht rfl rfl rfl so_24 (hm.fact (φ := IntsAt A2 c2 m2 list) 2 rfl) et6) ?_
  intro a ht
  refine wpl rfl rfl ht (ev_load ht rfl rfl sc_2 (RowAt.cell (hm.fact (φ := IntsAt A2 c2 m2 list) 2 rfl) (ints_get et6) rfl)) ?_
  intro a ht
  refine wpl rfl rfl ht (ev_assign ht rfl rfl) ?_
  intro a ht
  refine wpList_nil ?_
  refine then_normal ?_
  refine wp_ret ?_
  have hres := ht.res (P := Try.prog) (w := w) (rs := [.tmp 4]) (vs := [.int .i64 t6]) (.tmp rfl .nil)
  obtain rfl := Option.some.inj H
  exact leave ht rfl hres ⟨A3, c4, m5, rfl, ((hm.pick [0] rfl (by decide)).pickφ [0] rfl).post fun _ h => h⟩

/-! ### spec_l01Near: function 16 (loop.example/g01362/spec.l01Near) -/
def spec_l01Near.f (s : List Int) (s2 : Int) (s3 : Int) (most : Int) : Option (Int × List Int × Int × Int) := (spec_l01Next.f s s2 s3 14).bind fun t1 => if t1.1 = 0 then ((spec_l01Pick.f t1.2.1 t1.2.2.1 t1.2.2.2 ([(-1), w64 (most + 1), 1099511627776, (-4611686018427387904)])).bind fun t7 => some (t7.1, t7.2.1, t7.2.2.1, t7.2.2.2)) else ((spec_l01Next.f t1.2.1 t1.2.2.1 t1.2.2.2 (w64 (most + 1))).bind fun t11 => some (t11.1, t11.2.1, t11.2.2.1, t11.2.2.2))
set_option maxRecDepth 100000 in
set_option maxHeartbeats 20000000 in
theorem spec_l01Near.calls (X : List Nat) (w0 : World) (b : Nat) (A : Option Addr) (c : Nat) (m : Nat) (s : List Int) (s2 : Int) (s3 : Int) (most : Int) (r : Int × List Int × Int × Int)
    (hp : Pre X w0 [.blk b 58 [.slice A m c, .int .i64 s2, .int .u64 s3]] [Bytes8At A c m s]) (H : spec_l01Near.f s s2 s3 most = some r) :
    Calls Try.prog 16 [.pointer (some ⟨b, 0, none⟩), .int .i64 most].toArray w0 (Ret fun v w => ∃ (B_0_0 : Option Addr) (d_0_0 : Nat) (m_0_0 : Nat), v = .int .i64 r.1 ∧ Post X (fps [.blk b 58 [.slice A m c, .int .i64 s2, .int .u64 s3]]) w0 [.blk b 58 [.slice B_0_0 m_0_0 d_0_0, .int .i64 r.2.2.1, .int .u64 r.2.2.2]] [Bytes8At B_0_0 d_0_0 m_0_0 r.2.1] w) := by
  unfold spec_l01Near.f at H
  refine enterM (n := 17) hp Try.func16 rfl rfl (Nat.le_of_ble_eq_true rfl) fun a w ht hm => ?_
  refine wp_seq ?_
  refine wpr ?_
  refine wpl rfl rfl ht (ev_assign ht rfl rfl) ?_
  intro a ht
  refine wpList_nil ?_
  refine then_normal ?_
  refine wp_seq ?_
  refine wp_seq ?_
  refine wpr ?_
  refine wpl rfl rfl ht (ev_move ht rfl rfl) ?_
  intro a ht
  obtain ⟨t1, et1, H⟩ := bind_get H
  have hcall := spec_l01Next.calls _ _ b A c m s s2 s3 14 _ ((hm.pick (own' := [.blk b 58 [.slice A m c, .int .i64 s2, .int .u64 s3]] ++ []) [0] rfl (by decide)).give (passed := [.blk b 58 [.slice A m c, .int .i64 s2, .int .u64 s3]]) (rest := []) (φp := [Bytes8At A c m s]) [0] rfl) et1
  refine wpl_call _ rfl rfl ht rfl rfl rfl rfl can_30 hcall ?_
  clear hcall
  rintro _ w ⟨A2, c3, m4, rfl, hpost⟩ a ht
  replace hm := (hm.pick (own' := [.blk b 58 [.slice A m c, .int .i64 s2, .int .u64 s3]] ++ []) [0] rfl (by decide)).back hpost
  clear hpost
  refine wpl rfl rfl ht (ev_cmp ht rfl rfl rfl rfl) ?_
  intro a ht
  refine wpList_nil ?_
  refine then_normal ?_
  by_cases h5 : t1.1 = 0
  · replace H := ite_yes h5 H
    refine wpc_yes ht rfl (decide_eq_true h5) ?_
    refine wp_seq ?_
    refine wpr ?_
    refine wpl rfl rfl ht (ev_move ht rfl rfl) ?_
    intro a ht
    refine wpl rfl rfl ht (ev_move ht rfl rfl) ?_
    intro a ht
    refine wpl rfl rfl ht (ev_arith ht rfl rfl rfl rfl) ?_
    intro a ht
    refine wpl_build_ints (l := [(-1), w64 (most + 1), 1099511627776, (-4611686018427387904)]) rfl rfl ht hm rfl und_24 zo_2 sz1_2 (by decide) rfl rfl rfl ?_
    intro A6 a ht w hm
    replace hm : Ms _ _ _ _ (IntsAt A6 4 4 ([(-1), w64 (most + 1), 1099511627776, (-4611686018427387904)]) :: _) w := hm.shutVec 0 rfl
    obtain ⟨t7, et7, H⟩ := bind_get H
    have hcall := spec_l01Pick.calls _ _ b A2 c3 m4 A6 4 4 t1.2.1 t1.2.2.1 t1.2.2.2 ([(-1), w64 (most + 1), 1099511627776, (-4611686018427387904)]) _ ((hm.pick (own' := [.blk b 58 [.slice A2 m4 c3, .int .i64 t1.2.2.1, .int .u64 t1.2.2.2]] ++ []) [0] rfl (by decide)).give (passed := [.blk b 58 [.slice A2 m4 c3, .int .i64 t1.2.2.1, .int .u64 t1.2.2.2]]) (rest := []) (φp := [Bytes8At A2 c3 m4 t1.2.1, IntsAt A6 4 4 ([(-1), w64 (most + 1), 1099511627776, (-4611686018427387904)])]) [1, 0] rfl) et7
    refine wpl_call _ rfl rfl ht rfl rfl rfl rfl can_31 hcall ?_
    clear hcall
    rintro _ w ⟨A8, c9, m10, rfl, hpost⟩ a ht
    replace hm := (hm.pick (own' := [.blk b 58 [.slice A2 m4 c3, .int .i64 t1.2.2.1, .int .u64 t1.2.2.2]] ++ []) [0] rfl (by decide)).back hpost
    clear hpost
    refine wpl rfl rfl ht (ev_assign ht rfl rfl) ?_
    intro a ht
    refine wpList_nil ?_
    refine then_normal ?_
    refine wp_ret ?_
    refine then_ret ?_
    have hres := ht.res (P := Try.prog) (w := w) (rs := [.tmp 4]) (vs := [.int .i64 t7.1]) (.tmp rfl .nil)
    obtain rfl := Option.some.inj H
    exact leave ht rfl hres ⟨A8, c9, m10, rfl, ((hm.pick [0] rfl (by decide)).pickφ [0] rfl).post fun _ h => h⟩
  · replace H := ite_no h5 H
    refine wpc_no ht rfl (decide_eq_false h5) ?_
    refine wp_skip ?_
    refine then_normal ?_
    refine wp_seq ?_
    refine wpr ?_
    refine wpl rfl rfl ht (ev_move ht rfl rfl) ?_
    intro a ht
    refine wpl rfl rfl ht (ev_move ht rfl rfl) ?_
    intro a ht
    refine wpl rfl rfl ht (ev_arith ht rfl rfl rfl rfl) ?_
    intro a ht
    obtain ⟨t11, et11, H⟩ := bind_get H
    have hcall := spec_l01Next.calls _ _ b A2 c3 m4 t1.2.1 t1.2.2.1 t1.2.2.2 (w64 (most + 1)) _ ((hm.pick (own' := [.blk b 58 [.slice A2 m4 c3, .int .i64 t1.2.2.1, .int .u64 t1.2.2.2]] ++ []) [0] rfl (by decide)).give (passed := [.blk b 58 [.slice A2 m4 c3, .int .i64 t1.2.2.1, .int .u64 t1.2.2.2]]) (rest := []) (φp := [Bytes8At A2 c3 m4 t1.2.1]) [0] rfl) et11
    refine wpl_call _ rfl rfl ht rfl rfl rfl rfl can_30 hcall ?_
    clear hcall
    rintro _ w ⟨A12, c13, m14, rfl, hpost⟩ a ht
    replace hm := (hm.pick (own' := [.blk b 58 [.slice A2 m4 c3, .int .i64 t1.2.2.1, .int .u64 t1.2.2.2]] ++ []) [0] rfl (by decide)).back hpost
    clear hpost
    refine wpl rfl rfl ht (ev_assign ht rfl rfl) ?_
    intro a ht
    refine wpList_nil ?_
    refine then_normal ?_
    refine wp_ret ?_
    have hres := ht.res (P := Try.prog) (w := w) (rs := [.tmp 4]) (vs := [.int .i64 t11.1]) (.tmp rfl .nil)
    obtain rfl := Option.some.inj H
    exact leave ht rfl hres ⟨A12, c13, m14, rfl, ((hm.pick [0] rfl (by decide)).pickφ [0] rfl).post fun _ h => h⟩

/-! ### spec_l03DrawSizes: function 17 (loop.example/g01362/spec.l03DrawSizes) -/
def spec_l03DrawSizes.f (s : List Int) (s2 : Int) (s3 : Int) : Option (List Int × List Int × Int × Int) := (spec_l01Pick.f s s2 s3 ([3, 3, 3, 4, 2, 5])).bind fun t2 => (spec_l01Pick.f t2.2.1 t2.2.2.1 t2.2.2.2 ([3, 4, 5, 4, 6, 2])).bind fun t7 => (spec_l01Next.f t7.2.1 t7.2.2.1 t7.2.2.2 16).bind fun t12 => if t12.1 = 0 then ((push ([t2.1, t7.1]) 3).bind fun l21 => some (l21, t12.2.1, t12.2.2.1, t12.2.2.2)) else (if t12.1 = 1 then ((spec_l01Pick.f t12.2.1 t12.2.2.1 t12.2.2.2 ([1, 7, (-1)])).bind fun t24 => (getI ([t2.1, t7.1]) 0).bind fun t28 => some (([t2.1, t7.1]).set (Int.toNat 0) t24.1, t24.2.1, t24.2.2.1, t24.2.2.2)) else (some ([t2.1, t7.1], t12.2.1, t12.2.2.1, t12.2.2.2)))
set_option maxRecDepth 100000 in
set_option maxHeartbeats 20000000 in
theorem spec_l03DrawSizes.calls (X : List Nat) (w0 : World) (b : Nat) (A : Option Addr) (c : Nat) (m : Nat) (s : List Int) (s2 : Int) (s3 : Int) (r : List Int × List Int × Int × Int)
    (hp : Pre X w0 [.blk b 58 [.slice A m c, .int .i64 s2, .int .u64 s3]] [Bytes8At A c m s]) (H : spec_l03DrawSizes.f s s2 s3 = some r) :
    Calls Try.prog 17 [.pointer (some ⟨b, 0, none⟩)].toArray w0 (Ret fun v w => ∃ (A_0 : Option Addr) (c_0 : Nat) (n_0 : Nat) (B_0_0 : Option Addr) (d_0_0 : Nat) (m_0_0 : Nat), v = .slice A_0 n_0 c_0 ∧ Post X (fps [.blk b 58 [.slice A m c, .int .i64 s2, .int .u64 s3]]) w0 [.vec A_0 c_0 2 1 n_0 (ints r.1), .blk b 58 [.slice B_0_0 m_0_0 d_0_0, .int .i64 r.2.2.1, .int .u64 r.2.2.2]] [Bytes8At B_0_0 d_0_0 m_0_0 r.2.1] w) := by
  unfold spec_l03DrawSizes.f at H
  refine enterM (n := 26) hp Try.func17 rfl rfl (Nat.le_of_ble_eq_true rfl) fun a w ht hm => ?_
  refine wp_seq ?_
  refine wpr ?_
  refine wpl rfl rfl ht (ev_assign ht rfl rfl) ?_
  intro a ht
  refine wpList_nil ?_
  refine then_normal ?_
  refine wp_seq ?_
  refine wpr ?_
  refine wpl rfl rfl ht (ev_move ht rfl rfl) ?_
  intro a ht
  refine wpl_build_ints (l := [3, 3, 3, 4, 2, 5]) rfl rfl ht hm rfl und_24 zo_2 sz1_2 (by decide) rfl rfl rfl ?_
  intro A1 a ht w hm
  replace hm : Ms _ _ _ _ (IntsAt A1 6 6 ([3, 3, 3, 4, 2, 5]) :: _) w := hm.shutVec 0 rfl
  obtain ⟨t2, et2, H⟩ := bind_get H
  have hcall := spec_l01Pick.calls _ _ b A c m A1 6 6 s s2 s3 ([3, 3, 3, 4, 2, 5]) _ ((hm.pick (own' := [.blk b 58 [.slice A m c, .int .i64 s2, .int .u64 s3]] ++ []) [0] rfl (by decide)).give (passed := [.blk b 58 [.slice A m c, .int .i64 s2, .int .u64 s3]]) (rest := []) (φp := [Bytes8At A c m s, IntsAt A1 6 6 ([3, 3, 3, 4, 2, 5])]) [1, 0] rfl) et2
  refine wpl_call _ rfl rfl ht rfl rfl rfl rfl can_31 hcall ?_
  clear hcall
  rintro _ w ⟨A3, c4, m5, rfl, hpost⟩ a ht
  replace hm := (hm.pick (own' := [.blk b 58 [.slice A m c, .int .i64 s2, .int .u64 s3]] ++ []) [0] rfl (by decide)).back hpost
  clear hpost
  refine wpl rfl rfl ht (ev_move ht rfl rfl) ?_
  intro a ht
  refine wpl_build_ints (l := [3, 4, 5, 4, 6, 2]) rfl rfl ht hm rfl und_24 zo_2 sz1_2 (by decide) rfl rfl rfl ?_
  intro A6 a ht w hm
  replace hm : Ms _ _ _ _ (IntsAt A6 6 6 ([3, 4, 5, 4, 6, 2]) :: _) w := hm.shutVec 0 rfl
  obtain ⟨t7, et7, H⟩ := bind_get H
  have hcall := spec_l01Pick.calls _ _ b A3 c4 m5 A6 6 6 t2.2.1 t2.2.2.1 t2.2.2.2 ([3, 4, 5, 4, 6, 2]) _ ((hm.pick (own' := [.blk b 58 [.slice A3 m5 c4, .int .i64 t2.2.2.1, .int .u64 t2.2.2.2]] ++ []) [0] rfl (by decide)).give (passed := [.blk b 58 [.slice A3 m5 c4, .int .i64 t2.2.2.1, .int .u64 t2.2.2.2]]) (rest := []) (φp := [Bytes8At A3 c4 m5 t2.2.1, IntsAt A6 6 6 ([3, 4, 5, 4, 6, 2])]) [1, 0] rfl) et7
  refine wpl_call _ rfl rfl ht rfl rfl rfl rfl can_31 hcall ?_
  clear hcall
  rintro _ w ⟨A8, c9, m10, rfl, hpost⟩ a ht
  replace hm := (hm.pick (own' := [.blk b 58 [.slice A3 m5 c4, .int .i64 t2.2.2.1, .int .u64 t2.2.2.2]] ++ []) [0] rfl (by decide)).back hpost
  clear hpost
  refine wpl_build_ints (l := [t2.1, t7.1]) rfl rfl ht hm rfl und_24 zo_2 sz1_2 (by decide) rfl rfl rfl ?_
  intro A11 a ht w hm
  refine wpl rfl rfl ht (ev_assign ht rfl rfl) ?_
  intro a ht
  refine wpList_nil ?_
  refine then_normal ?_
  refine wp_seq ?_
  refine wp_seq ?_
  refine wpr ?_
  refine wpl rfl rfl ht (ev_move ht rfl rfl) ?_
  intro a ht
  obtain ⟨t12, et12, H⟩ := bind_get H
  have hcall := spec_l01Next.calls _ _ b A8 c9 m10 t7.2.1 t7.2.2.1 t7.2.2.2 16 _ ((hm.pick (own' := [.blk b 58 [.slice A8 m10 c9, .int .i64 t7.2.2.1, .int .u64 t7.2.2.2]] ++ [.vec A11 2 2 1 2 (ints ([t2.1, t7.1]))]) [1, 0] rfl (by decide)).give (passed := [.blk b 58 [.slice A8 m10 c9, .int .i64 t7.2.2.1, .int .u64 t7.2.2.2]]) (rest := [.vec A11 2 2 1 2 (ints ([t2.1, t7.1]))]) (φp := [Bytes8At A8 c9 m10 t7.2.1]) [0] rfl) et12
  refine wpl_call _ rfl rfl ht rfl rfl rfl rfl can_30 hcall ?_
  clear hcall
  rintro _ w ⟨A13, c14, m15, rfl, hpost⟩ a ht
  replace hm := (hm.pick (own' := [.blk b 58 [.slice A8 m10 c9, .int .i64 t7.2.2.1, .int .u64 t7.2.2.2]] ++ [.vec A11 2 2 1 2 (ints ([t2.1, t7.1]))]) [1, 0] rfl (by decide)).back hpost
  clear hpost
  refine wpList_nil ?_
  refine then_normal ?_
  refine wp_block ?_
  refine wp_seq ?_
  refine wpr ?_
  refine wpl rfl rfl ht (ev_cmp ht rfl rfl rfl rfl) ?_
  intro a ht
  refine wpl rfl rfl ht (ev_assign ht rfl rfl) ?_
  intro a ht
  refine wpList_nil ?_
  refine then_normal ?_
  by_cases h16 : t12.1 = 0
  · replace H := ite_yes h16 H
    refine wpc_yes ht rfl (decide_eq_true h16) ?_
    refine wpr ?_
    refine wpl rfl rfl ht (ev_move ht rfl rfl) ?_
    intro a ht
    refine wpl_build_ints (l := [3]) rfl rfl ht hm rfl und_24 zo_2 sz1_2 (by decide) rfl rfl rfl ?_
    intro A17 a ht w hm
    obtain ⟨l21, el21, H⟩ := bind_get H
    refine wpl_push (r := l21) 2 0 rfl rfl ht hm rfl ap_24 rfl rfl rfl rfl el21 ?_
    intro A18 c19 m20 a ht w hm
    refine wpl rfl rfl ht (ev_assign ht rfl rfl) ?_
    intro a ht
    refine wpList_nil ?_
    refine blk_normal ?_
    refine then_normal ?_
    refine wp_seq ?_
    refine wpr ?_
    refine wpl rfl rfl ht (ev_move ht rfl rfl) ?_
    intro a ht
    refine wpl rfl rfl ht (ev_assign ht rfl rfl) ?_
    intro a ht
    refine wpList_nil ?_
    refine then_normal ?_
    refine wp_ret ?_
    have hres := ht.res (P := Try.prog) (w := w) (rs := [.tmp 2]) (vs := [.slice A18 m20 c19]) (.tmp rfl .nil)
    obtain rfl := Option.some.inj H
    exact leave ht rfl hres ⟨A18, c19, m20, A13, c14, m15, rfl, ((hm.pick [2, 1] rfl (by decide)).pickφ [0] rfl).post fun _ h => h⟩
  · replace H := ite_no h16 H
    refine wpc_no ht rfl (decide_eq_false h16) ?_
    refine wp_seq ?_
    refine wpr ?_
    refine wpl rfl rfl ht (ev_cmp ht rfl rfl rfl rfl) ?_
    intro a ht
    refine wpl rfl rfl ht (ev_assign ht rfl rfl) ?_
    intro a ht
    refine wpList_nil ?_
    refine then_normal ?_
    by_cases h22 : t12.1 = 1
    · replace H := ite_yes h22 H
      refine wpc_yes ht rfl (decide_eq_true h22) ?_
      refine wpr ?_
      refine wpl rfl rfl ht (ev_move ht rfl rfl) ?_
      intro a ht
      refine wpl rfl rfl ht (ev_move ht rfl rfl) ?_
      intro a ht
      refine wpl_build_ints (l := [1, 7, (-1)]) rfl rfl ht hm rfl und_24 zo_2 sz1_2 (by decide) rfl rfl rfl ?_
      intro A23 a ht w hm
      replace hm : Ms _ _ _ _ (IntsAt A23 3 3 ([1, 7, (-1)]) :: _) w := hm.shutVec 0 rfl
      obtain ⟨t24, et24, H⟩ := bind_get H
      have hcall := spec_l01Pick.calls _ _ b A13 c14 m15 A23 3 3 t12.2.1 t12.2.2.1 t12.2.2.2 ([1, 7, (-1)]) _ ((hm.pick (own' := [.blk b 58 [.slice A13 m15 c14, .int .i64 t12.2.2.1, .int .u64 t12.2.2.2]] ++ [.vec A11 2 2 1 2 (ints ([t2.1, t7.1]))]) [0, 1] rfl (by decide)).give (passed := [.blk b 58 [.slice A13 m15 c14, .int .i64 t12.2.2.1, .int .u64 t12.2.2.2]]) (rest := [.vec A11 2 2 1 2 (ints ([t2.1, t7.1]))]) (φp := [Bytes8At A13 c14 m15 t12.2.1, IntsAt A23 3 3 ([1, 7, (-1)])]) [1, 0] rfl) et24
      refine wpl_call _ rfl rfl ht rfl rfl rfl rfl can_31 hcall ?_
      clear hcall
      rintro _ w ⟨A25, c26, m27, rfl, hpost⟩ a ht
      replace hm := (hm.pick (own' := [.blk b 58 [.slice A13 m15 c14, .int .i64 t12.2.2.1, .int .u64 t12.2.2.2]] ++ [.vec A11 2 2 1 2 (ints ([t2.1, t7.1]))]) [0, 1] rfl (by decide)).back hpost
      clear hpost
      obtain ⟨t28, et28, H⟩ := bind_get H
      refine wpl rfl rfl ht (ev_index_ints ht rfl rfl rfl so_24 (hm.vec_row 1 rfl) et28) ?_
      intro a ht
      refine wpl_store_int 1 rfl rfl ht hm rfl rfl rfl sz1_2 rfl et28 ?_
      intro a ht w hm
      refine wpList_nil ?_
      refine blk_normal ?_
      refine then_normal ?_
      refine wp_seq ?_
      refine wpr ?_
      refine wpl rfl rfl ht (ev_move ht rfl rfl) ?_
      intro a ht
      refine wpl rfl rfl ht (ev_assign ht rfl rfl) ?_
      intro a ht
      refine wpList_nil ?_
      refine then_normal ?_
      refine wp_ret ?_
      have hres := ht.res (P := Try.prog) (w := w) (rs := [.tmp 2]) (vs := [.slice A11 2 2]) (.tmp rfl .nil)
      obtain rfl := Option.some.inj H
      exact leave ht rfl hres ⟨A11, 2, 2, A25, c26, m27, rfl, ((hm.pick [1, 0] rfl (by decide)).pickφ [0] rfl).post fun _ h => h⟩
    · replace H := ite_no h22 H
      refine wpc_no ht rfl (decide_eq_false h22) ?_
      refine wp_skip ?_
      refine blk_normal ?_
      refine then_normal ?_
      refine wp_seq ?_
      refine wpr ?_
      refine wpl rfl rfl ht (ev_move ht rfl rfl) ?_
      intro a ht
      refine wpl rfl rfl ht (ev_assign ht rfl rfl) ?_
      intro a ht
      refine wpList_nil ?_
      refine then_normal ?_
      refine wp_ret ?_
      have hres := ht.res (P := Try.prog) (w := w) (rs := [.tmp 2]) (vs := [.slice A11 2 2]) (.tmp rfl .nil)
      obtain rfl := Option.some.inj H
      exact leave ht rfl hres ⟨A11, 2, 2, A13, c14, m15, rfl, ((hm.pick [1, 0] rfl (by decide)).pickφ [0] rfl).post fun _ h => h⟩

/-! ### spec_DrawFirstCircular: function 5 (loop.example/g01362/spec.DrawFirstCircular) -/
def spec_DrawFirstCircular.f (k : Nat) (code : List Int) : Option (Int × List Int) := (spec_l01From.f k code).bind fun t1 => (spec_l01Near.f t1.1 t1.2.1 t1.2.2 11).bind fun t6 => (spec_l03DrawSizes.f t6.2.1 t6.2.2.1 t6.2.2.2).bind fun t10 => some (w64 (2 + t6.1), t10.1)
set_option maxRecDepth 100000 in
set_option maxHeartbeats 20000000 in
theorem spec_DrawFirstCircular.calls (k : Nat) (X : List Nat) (w0 : World) (A : Option Addr) (c : Nat) (m : Nat) (code : List Int) (r : Int × List Int)
    (hp : Pre X w0 [] [Bytes8At A c m code]) (H : spec_DrawFirstCircular.f k code = some r) :
    Calls Try.prog 5 [.slice A m c].toArray w0 (Ret fun v w => ∃ (A_1 : Option Addr) (c_1 : Nat) (n_1 : Nat), v = .tuple [.int .i64 r.1, .slice A_1 n_1 c_1].toArray ∧ Post X (fps []) w0 [.vec A_1 c_1 2 1 n_1 (ints r.2)] [] w) := by
  unfold spec_DrawFirstCircular.f at H
  refine enterM (n := 14) hp Try.func5 rfl rfl (Nat.le_of_ble_eq_true rfl) fun a w ht hm => ?_
  refine wp_seq ?_
  refine wpr ?_
  refine wpl rfl rfl ht (ev_assign ht rfl rfl) ?_
  intro a ht
  refine wpl rfl rfl ht (ev_assign ht rfl rfl) ?_
  intro a ht
  refine wpList_nil ?_
  refine then_normal ?_
  refine wp_seq ?_
  refine wpr ?_
  refine wpl rfl rfl ht (ev_move ht rfl rfl) ?_
  intro a ht
  obtain ⟨t1, et1, H⟩ := bind_get H
  have hcall := spec_l01From.calls k _ _ A c m code _ ((hm.pick (own' := [] ++ []) [] rfl (by decide)).give (passed := []) (rest := []) (φp := [Bytes8At A c m code]) [0] rfl) et1
  refine wpl_call _ rfl rfl ht rfl rfl rfl rfl can_15 hcall ?_
  clear hcall
  rintro _ w ⟨b2, A3, c4, m5, rfl, hpost⟩ a ht
  replace hm := (hm.pick (own' := [] ++ []) [] rfl (by decide)).back hpost
  clear hpost
  refine wpl rfl rfl ht (ev_assign ht rfl rfl) ?_
  intro a ht
  refine wpList_nil ?_
  refine then_normal ?_
  refine wp_seq ?_
  refine wpr ?_
  refine wpl rfl rfl ht (ev_move ht rfl rfl) ?_
  intro a ht
  obtain ⟨t6, et6, H⟩ := bind_get H
  have hcall := spec_l01Near.calls _ _ b2 A3 c4 m5 t1.1 t1.2.1 t1.2.2 11 _ ((hm.pick (own' := [.blk b2 58 [.slice A3 m5 c4, .int .i64 t1.2.1, .int .u64 t1.2.2]] ++ []) [0] rfl (by decide)).give (passed := [.blk b2 58 [.slice A3 m5 c4, .int .i64 t1.2.1, .int .u64 t1.2.2]]) (rest := []) (φp := [Bytes8At A3 c4 m5 t1.1]) [0] rfl) et6
  refine wpl_call _ rfl rfl ht rfl rfl rfl rfl can_16 hcall ?_
  clear hcall
  rintro _ w ⟨A7, c8, m9, rfl, hpost⟩ a ht
  replace hm := (hm.pick (own' := [.blk b2 58 [.slice A3 m5 c4, .int .i64 t1.2.1, .int .u64 t1.2.2]] ++ []) [0] rfl (by decide)).back hpost
  clear hpost
  refine wpl rfl rfl ht (ev_arith ht rfl rfl rfl rfl) ?_
  intro a ht
  refine wpl rfl rfl ht (ev_assign ht rfl rfl) ?_
  intro a ht
  refine wpList_nil ?_
  refine then_normal ?_
  refine wp_seq ?_
  refine wpr ?_
  refine wpl rfl rfl ht (ev_move ht rfl rfl) ?_
  intro a ht
  refine wpl rfl rfl ht (ev_move ht rfl rfl) ?_
  intro a ht
  obtain ⟨t10, et10, H⟩ := bind_get H
  have hcall := spec_l03DrawSizes.calls _ _ b2 A7 c8 m9 t6.2.1 t6.2.2.1 t6.2.2.2 _ ((hm.pick (own' := [.blk b2 58 [.slice A7 m9 c8, .int .i64 t6.2.2.1, .int .u64 t6.2.2.2]] ++ []) [0] rfl (by decide)).give (passed := [.blk b2 58 [.slice A7 m9 c8, .int .i64 t6.2.2.1, .int .u64 t6.2.2.2]]) (rest := []) (φp := [Bytes8At A7 c8 m9 t6.2.1]) [0] rfl) et10
  refine wpl_call _ rfl rfl ht rfl rfl rfl rfl can_17 hcall ?_
  clear hcall
  rintro _ w ⟨A11, c12, m13, A14, c15, m16, rfl, hpost⟩ a ht
  replace hm := (hm.pick (own' := [.blk b2 58 [.slice A7 m9 c8, .int .i64 t6.2.2.1, .int .u64 t6.2.2.2]] ++ []) [0] rfl (by decide)).back hpost
  clear hpost
  refine wpl rfl rfl ht (ev_assign ht rfl rfl) ?_
  intro a ht
  refine wpl rfl rfl ht (ev_assign ht rfl rfl) ?_
  intro a ht
  refine wpList_nil ?_
  refine then_normal ?_
  refine wp_ret ?_
  have hres := ht.res (P := Try.prog) (w := w) (rs := [.tmp 2, .tmp 3]) (vs := [.int .i64 (w64 (2 + t6.1)), .slice A11 m13 c12]) (.tmp rfl (.tmp rfl .nil))
  obtain rfl := Option.some.inj H
  exact leave ht rfl hres ⟨A11, c12, m13, rfl, ((hm.pick [0] rfl (by decide)).pickφ [] rfl).post fun _ h => h⟩

end Go.Proofs.Ytkceneefhbdifaa.G
