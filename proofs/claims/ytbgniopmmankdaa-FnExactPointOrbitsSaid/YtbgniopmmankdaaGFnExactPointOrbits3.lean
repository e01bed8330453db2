/- What each Go function computes, as a Lean function, and the proof that it does: written by a program of this session (wip/gen), part 3. -/
import Derived.Test.YtbgniopmmankdaaGFnExactPointOrbits2
namespace Go.Proofs.Ytbgniopmmankdaa.G
open Go Go.RowKit Go.Proofs.Ytbgniopmmankdaa.K
set_option linter.unusedVariables false
set_option linter.unusedSimpArgs false

/-! ### spec_l06Go: function 45 (loop.example/g01362/spec.l06Go) -/
mutual
def spec_l06Go.l0 : Nat → List Int → Int → Col → Col → List Int → List Int → Int → Int → List Int → Int → Option (Col × Col × List Int × List Int × Int × Int × List Int)
  | 0, _, _, _, _, _, _, _, _, _, _ => none
  | q8 + 1, list, used, xs0_1, xs0_2, ls0_6, ls0_10, xs0_11, xs0_12, ls0_16, xs0_17 => if xs0_17 < xs0_1.p then (if xs0_12 < xs0_11 then (if (bitop .and .i64 (shrI .i64 used (wu64 xs0_17)) 1) = 1 then (spec_l06Go.l0 q8 list used xs0_1 xs0_2 ls0_6 ls0_10 xs0_11 xs0_12 ls0_16 (w64 (xs0_17 + 1))) else ((getI ls0_6 (list.length : Int)).bind fun t12 => (getI ls0_10 xs0_17).bind fun t13 => if t12 ≠ t13 then (spec_l06Go.l0 q8 list used xs0_1 xs0_2 ls0_6 ls0_10 xs0_11 xs0_12 ls0_16 (w64 (xs0_17 + 1))) else (spec_l06Go.l1 q8 list used xs0_1 xs0_2 ls0_6 ls0_10 xs0_11 xs0_12 ls0_16 xs0_17 true 0))) else (some (xs0_1, xs0_2, ls0_6, ls0_10, xs0_11, xs0_12, ls0_16))) else (some (xs0_1, xs0_2, ls0_6, ls0_10, xs0_11, xs0_12, ls0_16))
def spec_l06Go.l1 : Nat → List Int → Int → Col → Col → List Int → List Int → Int → Int → List Int → Int → Bool → Int → Option (Col × Col × List Int × List Int × Int × Int × List Int)
  | 0, _, _, _, _, _, _, _, _, _, _, _, _ => none
  | q15 + 1, list, used, xs0_1, xs0_2, ls0_6, ls0_10, xs0_11, xs0_12, ls0_16, xs0_17, bs1_1, xs1_2 => if xs1_2 < (list.length : Int) then (if bs1_1 = true then ((getI list xs1_2).bind fun t13518 => (spec_l01At.f xs0_1 xs1_2 (list.length : Int)).bind fun t6518 => (spec_l01At.f xs0_2 t13518 xs0_17).bind fun t16518 => spec_l06Go.l1 q15 list used xs0_1 xs0_2 ls0_6 ls0_10 xs0_11 xs0_12 ls0_16 xs0_17 (decide (t6518 = t16518)) (w64 (xs1_2 + 1))) else (spec_l06Go.l0 q15 list used xs0_1 xs0_2 ls0_6 ls0_10 xs0_11 xs0_12 ls0_16 (w64 (xs0_17 + 1)))) else (if bs1_1 = true then ((spec_l01Own.f list).bind fun t20019 => (push t20019 xs0_17).bind fun l20027 => (spec_l06Go.f q15 xs0_1 xs0_2 ls0_6 ls0_10 xs0_11 xs0_12 ls0_16 l20027 (bitop .or .i64 used (shlI .i64 1 (wu64 xs0_17)))).bind fun t20028 => spec_l06Go.l0 q15 list used t20028.1 t20028.2.1 t20028.2.2.1 t20028.2.2.2.1 t20028.2.2.2.2.1 t20028.2.2.2.2.2.1 t20028.2.2.2.2.2.2 (w64 (xs0_17 + 1))) else (spec_l06Go.l0 q15 list used xs0_1 xs0_2 ls0_6 ls0_10 xs0_11 xs0_12 ls0_16 (w64 (xs0_17 + 1))))
def spec_l06Go.f : Nat → Col → Col → List Int → List Int → Int → Int → List Int → List Int → Int → Option (Col × Col × List Int × List Int × Int × Int × List Int)
  | 0, _, _, _, _, _, _, _, _, _ => none
  | k + 1, s, s2, s3, s4, s5, s6, s7, list, used => if (list.length : Int) = s.p then (if s6 = 0 then ((spec_l01Own.f list).bind fun t3 => some (s, s2, s3, s4, s5, w64 (s6 + 1), t3)) else (some (s, s2, s3, s4, s5, w64 (s6 + 1), s7))) else (spec_l06Go.l0 k list used s s2 s3 s4 s5 s6 s7 0)
end
set_option maxRecDepth 100000 in
set_option maxHeartbeats 20000000 in
theorem spec_l06Go.calls (k : Nat) (X : List Nat) (w0 : World) (b : Nat) (A : Option Addr) (c : Nat) (m : Nat) (A2 : Option Addr) (c2 : Nat) (m2 : Nat) (A3 : Option Addr) (c3 : Nat) (m3 : Nat) (A4 : Option Addr) (c4 : Nat) (m4 : Nat) (s : Col) (s2 : Col) (s3 : List Int) (s4 : List Int) (s5 : Int) (s6 : Int) (s7 : List Int) (list : List Int) (used : Int) (r : Col × Col × List Int × List Int × Int × Int × List Int)
    (hp : Pre X w0 [.blk b 45 (Col.cells s ++ (Col.cells s2 ++ ([.slice A m c, .slice A2 m2 c2, .int .i64 s5, .int .i64 s6, .slice A3 m3 c3])))] [IntsAt A c m s3, IntsAt A2 c2 m2 s4, IntsAt A3 c3 m3 s7, IntsAt A4 c4 m4 list]) (H : spec_l06Go.f k s s2 s3 s4 s5 s6 s7 list used = some r) :
    Calls Try.prog 45 [.pointer (some ⟨b, 0, none⟩), .slice A4 m4 c4, .int .i64 used].toArray w0 (Ret fun v w => ∃ (B_0_2 : Option Addr) (d_0_2 : Nat) (m_0_2 : Nat) (B_0_3 : Option Addr) (d_0_3 : Nat) (m_0_3 : Nat) (B_0_6 : Option Addr) (d_0_6 : Nat) (m_0_6 : Nat), v = .tuple [].toArray ∧ Post X (fps [.blk b 45 (Col.cells s ++ (Col.cells s2 ++ ([.slice A m c, .slice A2 m2 c2, .int .i64 s5, .int .i64 s6, .slice A3 m3 c3])))]) w0 [.blk b 45 (Col.cells r.1 ++ (Col.cells r.2.1 ++ ([.slice B_0_2 m_0_2 d_0_2, .slice B_0_3 m_0_3 d_0_3, .int .i64 r.2.2.2.2.1, .int .i64 r.2.2.2.2.2.1, .slice B_0_6 m_0_6 d_0_6])))] [IntsAt B_0_2 d_0_2 m_0_2 r.2.2.1, IntsAt B_0_3 d_0_3 m_0_3 r.2.2.2.1, IntsAt B_0_6 d_0_6 m_0_6 r.2.2.2.2.2.2] w) := by
  induction k using Nat.strongRecOn generalizing X w0 b A c m A2 c2 m2 A3 c3 m3 A4 c4 m4 s s2 s3 s4 s5 s6 s7 list used r with
  | _ k ih =>
  cases k with
  | zero => cases H
  | succ k =>
  rw [spec_l06Go.f] at H
  refine enterM (n := 118) hp Try.func45 rfl rfl (Nat.le_of_ble_eq_true rfl) fun a w ht hm => ?_
  induction k using Nat.strongRecOn with
  | _ k ih =>
  refine wp_seq ?_
  refine wpr ?_
  refine wpl rfl rfl ht (ev_move ht rfl rfl) ?_
  intro a ht
  refine wpl rfl rfl ht (ev_len_of ht rfl rfl und_43 (hm.fact (φ := IntsAt A4 c4 m4 list) 3 rfl)) ?_
  intro a ht
  refine wpl rfl rfl ht (ev_assign ht rfl rfl) ?_
  intro a ht
  refine wpList_nil ?_
  refine then_normal ?_
  refine wp_seq ?_
  refine wp_seq ?_
  refine wpr ?_
  refine wpl rfl rfl ht (ev_move ht rfl rfl) ?_
  intro a ht
  refine wpl rfl rfl ht (ev_move ht rfl rfl) ?_
  intro a ht
  refine wpl rfl rfl ht (ev_nilCheck ht rfl rfl) ?_
  intro a ht
  refine wpl rfl rfl ht (ev_fieldAddr ht rfl rfl fo_45_0) ?_
  intro a ht
  refine wpl rfl rfl ht (ev_fieldAddr ht rfl rfl fo_27_0) ?_
  intro a ht
  refine wpl rfl rfl ht (ev_load ht rfl rfl sc_2 (hm.blk_cell 0 rfl rfl)) ?_
  intro a ht
  refine wpl rfl rfl ht (ev_cmp ht rfl rfl rfl rfl) ?_
  intro a ht
  refine wpList_nil ?_
  refine then_normal ?_
  by_cases h1 : (list.length : Int) = s.p
  · replace H := ite_yes h1 H
    refine wpc_yes ht rfl (decide_eq_true h1) ?_
    refine wp_seq ?_
    refine wp_seq ?_
    refine wpr ?_
    refine wpl rfl rfl ht (ev_move ht rfl rfl) ?_
    intro a ht
    refine wpl rfl rfl ht (ev_nilCheck ht rfl rfl) ?_
    intro a ht
    refine wpl rfl rfl ht (ev_fieldAddr ht rfl rfl fo_45_5) ?_
    intro a ht
    refine wpl rfl rfl ht (ev_load ht rfl rfl sc_2 (hm.blk_cell 0 rfl ((seg_col _ _ 141).trans ((seg_col _ _ 3).trans rfl)))) ?_
    intro a ht
    refine wpl rfl rfl ht (ev_cmp ht rfl rfl rfl rfl) ?_
    intro a ht
    refine wpList_nil ?_
    refine then_normal ?_
    by_cases h2 : s6 = 0
    · replace H := ite_yes h2 H
      refine wpc_yes ht rfl (decide_eq_true h2) ?_
      refine wpr ?_
      refine wpl rfl rfl ht (ev_move ht rfl rfl) ?_
      intro a ht
      refine wpl rfl rfl ht (ev_move ht rfl rfl) ?_
      intro a ht
      obtain ⟨t3, et3, H⟩ := bind_get H
      have hcall := spec_l01Own.calls _ _ A4 c4 m4 list _ ((fun (hq : Ms _ _ _ ([] ++ [.blk b 45 (Col.cells s ++ (Col.cells s2 ++ ([.slice A m c, .slice A2 m2 c2, .int .i64 s5, .int .i64 s6, .slice A3 m3 c3])))]) _ _) => hq.lend (φp := [IntsAt A4 c4 m4 list]) (allRO_cons (hq.lendFact 3 rfl) (allRO_nil))) (hm.pick (own' := [] ++ [.blk b 45 (Col.cells s ++ (Col.cells s2 ++ ([.slice A m c, .slice A2 m2 c2, .int .i64 s5, .int .i64 s6, .slice A3 m3 c3])))]) [0] rfl (by decide))) et3
      refine wpl_call _ rfl rfl ht rfl rfl rfl rfl can_50 hcall ?_
      clear hcall
      rintro _ w ⟨A5, c6, m7, rfl, hpost⟩ a ht
      replace hm := (hm.pick (own' := [] ++ [.blk b 45 (Col.cells s ++ (Col.cells s2 ++ ([.slice A m c, .slice A2 m2 c2, .int .i64 s5, .int .i64 s6, .slice A3 m3 c3])))]) [0] rfl (by decide)).backL hpost
      clear hpost
      refine wpl rfl rfl ht (ev_nilCheck ht rfl rfl) ?_
      intro a ht
      refine wpl rfl rfl ht (ev_fieldAddr ht rfl rfl fo_45_6) ?_
      intro a ht
      refine wpl_store_seg 1 rfl rfl ht hm rfl rfl rfl sz1_43 rfl rfl ((seg_col _ _ 142).trans ((seg_col _ _ 4).trans rfl)) ((seg_colS _ _ 142 _).trans (congrArg _ ((seg_colS _ _ 4 _).trans (congrArg _ rfl)))) ?_
      intro a ht w hm
      refine wpList_nil ?_
      refine then_normal ?_
      refine wp_seq ?_
      refine wpr ?_
      refine wpl rfl rfl ht (ev_move ht rfl rfl) ?_
      intro a ht
      refine wpl rfl rfl ht (ev_nilCheck ht rfl rfl) ?_
      intro a ht
      refine wpl rfl rfl ht (ev_fieldAddr ht rfl rfl fo_45_5) ?_
      intro a ht
      refine wpl rfl rfl ht (ev_load ht rfl rfl sc_2 (hm.blk_cell 1 rfl ((seg_col _ _ 141).trans ((seg_col _ _ 3).trans rfl)))) ?_
      intro a ht
      refine wpl rfl rfl ht (ev_arith ht rfl rfl rfl rfl) ?_
      intro a ht
      refine wpl rfl rfl ht (ev_nilCheck ht rfl rfl) ?_
      intro a ht
      refine wpl rfl rfl ht (ev_fieldAddr ht rfl rfl fo_45_5) ?_
      intro a ht
      refine wpl_store_seg 1 rfl rfl ht hm rfl rfl rfl sz1_2 rfl rfl ((seg_col _ _ 141).trans ((seg_col _ _ 3).trans rfl)) ((seg_colS _ _ 141 _).trans (congrArg _ ((seg_colS _ _ 3 _).trans (congrArg _ rfl)))) ?_
      intro a ht w hm
      refine wpList_nil ?_
      refine then_normal ?_
      refine wp_ret ?_
      refine then_ret ?_
      have hres := ht.res (P := Try.prog) (w := w) (rs := []) (vs := []) .nil
      replace hm : Ms _ _ _ _ (IntsAt A5 c6 m7 t3 :: _) w := hm.shutVec 0 rfl
      obtain rfl := Option.some.inj H
      exact leave ht rfl hres ⟨A, c, m, A2, c2, m2, A5, c6, m7, rfl, ((hm.pick [0] rfl (by decide)).pickφ [1, 2, 0] rfl).post fun _ h => h⟩
    · replace H := ite_no h2 H
      refine wpc_no ht rfl (decide_eq_false h2) ?_
      refine wp_skip ?_
      refine then_normal ?_
      refine wp_seq ?_
      refine wpr ?_
      refine wpl rfl rfl ht (ev_move ht rfl rfl) ?_
      intro a ht
      refine wpl rfl rfl ht (ev_nilCheck ht rfl rfl) ?_
      intro a ht
      refine wpl rfl rfl ht (ev_fieldAddr ht rfl rfl fo_45_5) ?_
      intro a ht
      refine wpl rfl rfl ht (ev_load ht rfl rfl sc_2 (hm.blk_cell 0 rfl ((seg_col _ _ 141).trans ((seg_col _ _ 3).trans rfl)))) ?_
      intro a ht
      refine wpl rfl rfl ht (ev_arith ht rfl rfl rfl rfl) ?_
      intro a ht
      refine wpl rfl rfl ht (ev_nilCheck ht rfl rfl) ?_
      intro a ht
      refine wpl rfl rfl ht (ev_fieldAddr ht rfl rfl fo_45_5) ?_
      intro a ht
      refine wpl_store_seg 0 rfl rfl ht hm rfl rfl rfl sz1_2 rfl rfl ((seg_col _ _ 141).trans ((seg_col _ _ 3).trans rfl)) ((seg_colS _ _ 141 _).trans (congrArg _ ((seg_colS _ _ 3 _).trans (congrArg _ rfl)))) ?_
      intro a ht w hm
      refine wpList_nil ?_
      refine then_normal ?_
      refine wp_ret ?_
      refine then_ret ?_
      have hres := ht.res (P := Try.prog) (w := w) (rs := []) (vs := []) .nil
      obtain rfl := Option.some.inj H
      exact leave ht rfl hres ⟨A, c, m, A2, c2, m2, A3, c3, m3, rfl, ((hm.pick [0] rfl (by decide)).pickφ [0, 1, 2] rfl).post fun _ h => h⟩
  · replace H := ite_no h1 H
    refine wpc_no ht rfl (decide_eq_false h1) ?_
    refine wp_skip ?_
    refine then_normal ?_
    refine wp_seq ?_
    refine wpr ?_
    refine wpl rfl rfl ht (ev_assign ht rfl rfl) ?_
    intro a ht
    refine wpList_nil ?_
    refine then_normal ?_
    refine wp_block ?_
    refine wpLoop (fun q a w => ∃ (xs0_1 : Col) (xs0_2 : Col) (ls0_6 : List Int) (ls0_10 : List Int) (xs0_11 : Int) (xs0_12 : Int) (ls0_16 : List Int) (xs0_17 : Int) (As0_3 : Option Addr) (cs0_4 : Nat) (ms0_5 : Nat) (As0_7 : Option Addr) (cs0_8 : Nat) (ms0_9 : Nat) (As0_13 : Option Addr) (cs0_14 : Nat) (ms0_15 : Nat), spec_l06Go.l0 q list used xs0_1 xs0_2 ls0_6 ls0_10 xs0_11 xs0_12 ls0_16 xs0_17 = some r ∧ q ≤ k ∧ Tm 118 [(0, .pointer (some ⟨b, 0, none⟩)), (1, .slice A4 m4 c4), (2, .int .i64 used), (6, .int .i64 (list.length : Int)), (7, .int .i64 xs0_17)] a ∧ Ms X (fps [.blk b 45 (Col.cells s ++ (Col.cells s2 ++ ([.slice A m c, .slice A2 m2 c2, .int .i64 s5, .int .i64 s6, .slice A3 m3 c3])))]) w0 [.blk b 45 (Col.cells xs0_1 ++ (Col.cells xs0_2 ++ ([.slice As0_3 ms0_5 cs0_4, .slice As0_7 ms0_9 cs0_8, .int .i64 xs0_11, .int .i64 xs0_12, .slice As0_13 ms0_15 cs0_14])))] [IntsAt A4 c4 m4 list, IntsAt As0_3 cs0_4 ms0_5 ls0_6, IntsAt As0_7 cs0_8 ms0_9 ls0_10, IntsAt As0_13 cs0_14 ms0_15 ls0_16, IntsAt A c m s3, IntsAt A2 c2 m2 s4, IntsAt A3 c3 m3 s7] w) (k0 := k) ⟨s, s2, s3, s4, s5, s6, s7, 0, A, c, m, A2, c2, m2, A3, c3, m3, H, Nat.le_refl _, ht.sub ⟨rfl, rfl, rfl, rfl, rfl, trivial⟩, (hm.pick [0] rfl (by decide)).pickφ [3, 0, 1, 2, 0, 1, 2] rfl⟩ ?_
    clear H ht hm
    intro q8 a w hJ
    obtain ⟨xs0_1, xs0_2, ls0_6, ls0_10, xs0_11, xs0_12, ls0_16, xs0_17, As0_3, cs0_4, ms0_5, As0_7, cs0_8, ms0_9, As0_13, cs0_14, ms0_15, H, hqq8, ht, hm⟩ := hJ
    cases q8 with
    | zero => cases H
    | succ q8 =>
    rw [spec_l06Go.l0] at H
    refine wp_seq ?_
    refine wp_seq ?_
    refine wph_begin (fun w => Ms X (fps [.blk b 45 (Col.cells s ++ (Col.cells s2 ++ ([.slice A m c, .slice A2 m2 c2, .int .i64 s5, .int .i64 s6, .slice A3 m3 c3])))]) w0 [.blk b 45 (Col.cells xs0_1 ++ (Col.cells xs0_2 ++ ([.slice As0_3 ms0_5 cs0_4, .slice As0_7 ms0_9 cs0_8, .int .i64 xs0_11, .int .i64 xs0_12, .slice As0_13 ms0_15 cs0_14])))] [IntsAt A4 c4 m4 list, IntsAt As0_3 cs0_4 ms0_5 ls0_6, IntsAt As0_7 cs0_8 ms0_9 ls0_10, IntsAt As0_13 cs0_14 ms0_15 ls0_16, IntsAt A c m s3, IntsAt A2 c2 m2 s4, IntsAt A3 c3 m3 s7] w) mixed ?_
    replace hm := hm.drew
    have hS : Ms X (fps [.blk b 45 (Col.cells s ++ (Col.cells s2 ++ ([.slice A m c, .slice A2 m2 c2, .int .i64 s5, .int .i64 s6, .slice A3 m3 c3])))]) w0 [.blk b 45 (Col.cells xs0_1 ++ (Col.cells xs0_2 ++ ([.slice As0_3 ms0_5 cs0_4, .slice As0_7 ms0_9 cs0_8, .int .i64 xs0_11, .int .i64 xs0_12, .slice As0_13 ms0_15 cs0_14])))] [IntsAt A4 c4 m4 list, IntsAt As0_3 cs0_4 ms0_5 ls0_6, IntsAt As0_7 cs0_8 ms0_9 ls0_10, IntsAt As0_13 cs0_14 ms0_15 ls0_16, IntsAt A c m s3, IntsAt A2 c2 m2 s4, IntsAt A3 c3 m3 s7] w.drew := (hm.pick [0] rfl (by decide)).pickφ [0, 1, 2, 3, 4, 5, 6] rfl
    generalize w.drew = w at hm hS ⊢
    refine wph_take (i := 0) rfl (by kernel_rfl) (by kernel_rfl) (by kernel_rfl) (fun _ _ _ h => h) rfl ht hS (wanted_plain rfl) (fun w hm => ev_move ht rfl rfl) ?_
    intro a ht
    refine wph_take (i := 1) rfl (by kernel_rfl) (by kernel_rfl) (by kernel_rfl) (fun _ _ _ h => h) rfl ht hS (wanted_plain rfl) (fun w hm => ev_move ht rfl rfl) ?_
    intro a ht
    refine wph_take (i := 2) rfl (by kernel_rfl) (by kernel_rfl) (by kernel_rfl) (fun _ _ _ h => h) rfl ht hS (wanted_plain rfl) (fun w hm => ev_nilCheck ht rfl rfl) ?_
    intro a ht
    refine wph_take (i := 3) rfl (by kernel_rfl) (by kernel_rfl) (by kernel_rfl) (fun _ _ _ h => h) rfl ht hS (wanted_plain rfl) (fun w hm => ev_fieldAddr ht rfl rfl fo_45_0) ?_
    intro a ht
    refine wph_take (i := 4) rfl (by kernel_rfl) (by kernel_rfl) (by kernel_rfl) (fun _ _ _ h => h) rfl ht hS (wanted_plain rfl) (fun w hm => ev_fieldAddr ht rfl rfl fo_27_0) ?_
    intro a ht
    refine wph_take (i := 5) rfl (by kernel_rfl) (by kernel_rfl) (by kernel_rfl) (fun _ _ _ h => h) rfl ht hS (wanted_plain rfl) (fun w hm => ev_load ht rfl rfl sc_2 (hm.blk_cell 0 rfl rfl)) ?_
    intro a ht
    refine wph_take (i := 6) rfl (by kernel_rfl) (by kernel_rfl) (by kernel_rfl) (fun _ _ _ h => h) rfl ht hS (wanted_plain rfl) (fun w hm => ev_cmp ht rfl rfl rfl rfl) ?_
    intro a ht
    refine wph_take (i := 7) rfl (by kernel_rfl) (by kernel_rfl) (by kernel_rfl) (fun _ _ _ h => h) rfl ht hS (wanted_plain rfl) (fun w hm => ev_move ht rfl rfl) ?_
    intro a ht
    by_cases h9 : xs0_17 < xs0_1.p
    · replace H := ite_yes h9 H
      refine wph_take (i := 8) rfl (by kernel_rfl) (by kernel_rfl) (by kernel_rfl) (fun _ _ _ h => h) rfl ht hS (wanted_yes rfl ht rfl ((decide_eq_true h9))) (fun w hm => ev_move ht rfl rfl) ?_
      intro a ht
      refine wph_take (i := 9) rfl (by kernel_rfl) (by kernel_rfl) (by kernel_rfl) (fun _ _ _ h => h) rfl ht hS (wanted_yes rfl ht rfl ((decide_eq_true h9))) (fun w hm => ev_nilCheck ht rfl rfl) ?_
      intro a ht
      refine wph_take (i := 10) rfl (by kernel_rfl) (by kernel_rfl) (by kernel_rfl) (fun _ _ _ h => h) rfl ht hS (wanted_yes rfl ht rfl ((decide_eq_true h9))) (fun w hm => ev_fieldAddr ht rfl rfl fo_45_5) ?_
      intro a ht
      refine wph_take (i := 11) rfl (by kernel_rfl) (by kernel_rfl) (by kernel_rfl) (fun _ _ _ h => h) rfl ht hS (wanted_yes rfl ht rfl ((decide_eq_true h9))) (fun w hm => ev_load ht rfl rfl sc_2 (hm.blk_cell 0 rfl ((seg_col _ _ 141).trans ((seg_col _ _ 3).trans rfl)))) ?_
      intro a ht
      refine wph_take (i := 12) rfl (by kernel_rfl) (by kernel_rfl) (by kernel_rfl) (fun _ _ _ h => h) rfl ht hS (wanted_yes rfl ht rfl ((decide_eq_true h9))) (fun w hm => ev_move ht rfl rfl) ?_
      intro a ht
      refine wph_take (i := 13) rfl (by kernel_rfl) (by kernel_rfl) (by kernel_rfl) (fun _ _ _ h => h) rfl ht hS (wanted_yes rfl ht rfl ((decide_eq_true h9))) (fun w hm => ev_nilCheck ht rfl rfl) ?_
      intro a ht
      refine wph_take (i := 14) rfl (by kernel_rfl) (by kernel_rfl) (by kernel_rfl) (fun _ _ _ h => h) rfl ht hS (wanted_yes rfl ht rfl ((decide_eq_true h9))) (fun w hm => ev_fieldAddr ht rfl rfl fo_45_4) ?_
      intro a ht
      refine wph_take (i := 15) rfl (by kernel_rfl) (by kernel_rfl) (by kernel_rfl) (fun _ _ _ h => h) rfl ht hS (wanted_yes rfl ht rfl ((decide_eq_true h9))) (fun w hm => ev_load ht rfl rfl sc_2 (hm.blk_cell 0 rfl ((seg_col _ _ 140).trans ((seg_col _ _ 2).trans rfl)))) ?_
      intro a ht
      refine wph_take (i := 16) rfl (by kernel_rfl) (by kernel_rfl) (by kernel_rfl) (fun _ _ _ h => h) rfl ht hS (wanted_yes rfl ht rfl ((decide_eq_true h9))) (fun w hm => ev_cmp ht rfl rfl rfl rfl) ?_
      intro a ht
      refine wph_take (i := 17) rfl (by kernel_rfl) (by kernel_rfl) (by kernel_rfl) (fun _ _ _ h => h) rfl ht hS (wanted_plain rfl) (fun w hm => ev_pick_yes ht rfl rfl (decide_eq_true h9) rfl) ?_
      intro a ht
      refine wph_done (by kernel_rfl) ?_
      refine then_normal ?_
      by_cases h10 : xs0_12 < xs0_11
      · replace H := ite_yes h10 H
        refine wpc_yes ht rfl (decide_eq_true h10) ?_
        refine wp_skip ?_
        refine then_normal ?_
        refine wp_seq ?_
        refine wp_block ?_
        refine wp_seq ?_
        refine wp_seq ?_
        refine wph_begin (fun w => Ms X (fps [.blk b 45 (Col.cells s ++ (Col.cells s2 ++ ([.slice A m c, .slice A2 m2 c2, .int .i64 s5, .int .i64 s6, .slice A3 m3 c3])))]) w0 [.blk b 45 (Col.cells xs0_1 ++ (Col.cells xs0_2 ++ ([.slice As0_3 ms0_5 cs0_4, .slice As0_7 ms0_9 cs0_8, .int .i64 xs0_11, .int .i64 xs0_12, .slice As0_13 ms0_15 cs0_14])))] [IntsAt A4 c4 m4 list, IntsAt As0_3 cs0_4 ms0_5 ls0_6, IntsAt As0_7 cs0_8 ms0_9 ls0_10, IntsAt As0_13 cs0_14 ms0_15 ls0_16, IntsAt A c m s3, IntsAt A2 c2 m2 s4, IntsAt A3 c3 m3 s7] w) mixed ?_
        replace hm := hm.drew
        have hS : Ms X (fps [.blk b 45 (Col.cells s ++ (Col.cells s2 ++ ([.slice A m c, .slice A2 m2 c2, .int .i64 s5, .int .i64 s6, .slice A3 m3 c3])))]) w0 [.blk b 45 (Col.cells xs0_1 ++ (Col.cells xs0_2 ++ ([.slice As0_3 ms0_5 cs0_4, .slice As0_7 ms0_9 cs0_8, .int .i64 xs0_11, .int .i64 xs0_12, .slice As0_13 ms0_15 cs0_14])))] [IntsAt A4 c4 m4 list, IntsAt As0_3 cs0_4 ms0_5 ls0_6, IntsAt As0_7 cs0_8 ms0_9 ls0_10, IntsAt As0_13 cs0_14 ms0_15 ls0_16, IntsAt A c m s3, IntsAt A2 c2 m2 s4, IntsAt A3 c3 m3 s7] w.drew := (hm.pick [0] rfl (by decide)).pickφ [0, 1, 2, 3, 4, 5, 6] rfl
        generalize w.drew = w at hm hS ⊢
        refine wph_take (i := 0) rfl (by kernel_rfl) (by kernel_rfl) (by kernel_rfl) (fun _ _ _ h => h) rfl ht hS (wanted_plain rfl) (fun w hm => ev_move ht rfl rfl) ?_
        intro a ht
        refine wph_take (i := 1) rfl (by kernel_rfl) (by kernel_rfl) (by kernel_rfl) (fun _ _ _ h => h) rfl ht hS (wanted_plain rfl) (fun w hm => ev_move ht rfl rfl) ?_
        intro a ht
        refine wph_take (i := 2) rfl (by kernel_rfl) (by kernel_rfl) (by kernel_rfl) (fun _ _ _ h => h) rfl ht hS (wanted_plain rfl) (fun w hm => ev_convert ht rfl rfl und_2 und_88) ?_
        intro a ht
        refine wph_take (i := 3) rfl (by kernel_rfl) (by kernel_rfl) (by kernel_rfl) (fun _ _ _ h => h) rfl ht hS (wanted_plain rfl) (fun w hm => ev_shr ht rfl rfl rfl (wrapU_nonneg _ _ rfl)) ?_
        intro a ht
        refine wph_take (i := 4) rfl (by kernel_rfl) (by kernel_rfl) (by kernel_rfl) (fun _ _ _ h => h) rfl ht hS (wanted_plain rfl) (fun w hm => ev_bit ht rfl rfl rfl rfl) ?_
        intro a ht
        refine wph_take (i := 5) rfl (by kernel_rfl) (by kernel_rfl) (by kernel_rfl) (fun _ _ _ h => h) rfl ht hS (wanted_plain rfl) (fun w hm => ev_cmp ht rfl rfl rfl rfl) ?_
        intro a ht
        refine wph_take (i := 6) rfl (by kernel_rfl) (by kernel_rfl) (by kernel_rfl) (fun _ _ _ h => h) rfl ht hS (wanted_plain rfl) (fun w hm => ev_move ht rfl rfl) ?_
        intro a ht
        by_cases h11 : (bitop .and .i64 (shrI .i64 used (wu64 xs0_17)) 1) = 1
        · replace H := ite_yes h11 H
          refine wph_pass (i := 7) rfl (by kernel_rfl) (by kernel_rfl) (by kernel_rfl) (fun _ _ _ h => h) rfl ht hS (wanted_no rfl ht rfl (by rw [(decide_eq_true h11)]; decide)) ?_
          intro a ht
          refine wph_pass (i := 8) rfl (by kernel_rfl) (by kernel_rfl) (by kernel_rfl) (fun _ _ _ h => h) rfl ht hS (wanted_no rfl ht rfl (by rw [(decide_eq_true h11)]; decide)) ?_
          intro a ht
          refine wph_pass (i := 9) rfl (by kernel_rfl) (by kernel_rfl) (by kernel_rfl) (fun _ _ _ h => h) rfl ht hS (wanted_no rfl ht rfl (by rw [(decide_eq_true h11)]; decide)) ?_
          intro a ht
          refine wph_pass (i := 10) rfl (by kernel_rfl) (by kernel_rfl) (by kernel_rfl) (fun _ _ _ h => h) rfl ht hS (wanted_no rfl ht rfl (by rw [(decide_eq_true h11)]; decide)) ?_
          intro a ht
          refine wph_pass (i := 11) rfl (by kernel_rfl) (by kernel_rfl) (by kernel_rfl) (fun _ _ _ h => h) rfl ht hS (wanted_no rfl ht rfl (by rw [(decide_eq_true h11)]; decide)) ?_
          intro a ht
          refine wph_pass (i := 12) rfl (by kernel_rfl) (by kernel_rfl) (by kernel_rfl) (fun _ _ _ h => h) rfl ht hS (wanted_no rfl ht rfl (by rw [(decide_eq_true h11)]; decide)) ?_
          intro a ht
          refine wph_pass (i := 13) rfl (by kernel_rfl) (by kernel_rfl) (by kernel_rfl) (fun _ _ _ h => h) rfl ht hS (wanted_no rfl ht rfl (by rw [(decide_eq_true h11)]; decide)) ?_
          intro a ht
          refine wph_pass (i := 14) rfl (by kernel_rfl) (by kernel_rfl) (by kernel_rfl) (fun _ _ _ h => h) rfl ht hS (wanted_no rfl ht rfl (by rw [(decide_eq_true h11)]; decide)) ?_
          intro a ht
          refine wph_pass (i := 15) rfl (by kernel_rfl) (by kernel_rfl) (by kernel_rfl) (fun _ _ _ h => h) rfl ht hS (wanted_no rfl ht rfl (by rw [(decide_eq_true h11)]; decide)) ?_
          intro a ht
          refine wph_pass (i := 16) rfl (by kernel_rfl) (by kernel_rfl) (by kernel_rfl) (fun _ _ _ h => h) rfl ht hS (wanted_no rfl ht rfl (by rw [(decide_eq_true h11)]; decide)) ?_
          intro a ht
          refine wph_pass (i := 17) rfl (by kernel_rfl) (by kernel_rfl) (by kernel_rfl) (fun _ _ _ h => h) rfl ht hS (wanted_no rfl ht rfl (by rw [(decide_eq_true h11)]; decide)) ?_
          intro a ht
          refine wph_pass (i := 18) rfl (by kernel_rfl) (by kernel_rfl) (by kernel_rfl) (fun _ _ _ h => h) rfl ht hS (wanted_no rfl ht rfl (by rw [(decide_eq_true h11)]; decide)) ?_
          intro a ht
          refine wph_pass (i := 19) rfl (by kernel_rfl) (by kernel_rfl) (by kernel_rfl) (fun _ _ _ h => h) rfl ht hS (wanted_no rfl ht rfl (by rw [(decide_eq_true h11)]; decide)) ?_
          intro a ht
          refine wph_pass (i := 20) rfl (by kernel_rfl) (by kernel_rfl) (by kernel_rfl) (fun _ _ _ h => h) rfl ht hS (wanted_no rfl ht rfl (by rw [(decide_eq_true h11)]; decide)) ?_
          intro a ht
          refine wph_pass (i := 21) rfl (by kernel_rfl) (by kernel_rfl) (by kernel_rfl) (fun _ _ _ h => h) rfl ht hS (wanted_no rfl ht rfl (by rw [(decide_eq_true h11)]; decide)) ?_
          intro a ht
          refine wph_take (i := 22) rfl (by kernel_rfl) (by kernel_rfl) (by kernel_rfl) (fun _ _ _ h => h) rfl ht hS (wanted_plain rfl) (fun w hm => ev_pick_yes ht rfl rfl (decide_eq_true h11) rfl) ?_
          intro a ht
          refine wph_done (by kernel_rfl) ?_
          refine then_normal ?_
          refine wpc_yes ht rfl rfl ?_
          refine wp_exit ?_
          refine then_exit ?_
          refine blk_hit ?_
          refine then_normal ?_
          refine wpr ?_
          refine wpl rfl rfl ht (ev_move ht rfl rfl) ?_
          intro a ht
          refine wpl rfl rfl ht (ev_arith ht rfl rfl rfl rfl) ?_
          intro a ht
          refine wpl rfl rfl ht (ev_assign ht rfl rfl) ?_
          intro a ht
          refine wpList_nil ?_
          exact then_normal ⟨q8, by omega, xs0_1, xs0_2, ls0_6, ls0_10, xs0_11, xs0_12, ls0_16, (w64 (xs0_17 + 1)), As0_3, cs0_4, ms0_5, As0_7, cs0_8, ms0_9, As0_13, cs0_14, ms0_15, H, by omega, ht.sub ⟨rfl, rfl, rfl, rfl, rfl, trivial⟩, (hm.pick [0] rfl (by decide)).pickφ [0, 1, 2, 3, 4, 5, 6] rfl⟩
        · replace H := ite_no h11 H
          refine wph_take (i := 7) rfl (by kernel_rfl) (by kernel_rfl) (by kernel_rfl) (fun _ _ _ h => h) rfl ht hS (wanted_yes rfl ht rfl ((decide_eq_false h11))) (fun w hm => ev_move ht rfl rfl) ?_
          intro a ht
          refine wph_take (i := 8) rfl (by kernel_rfl) (by kernel_rfl) (by kernel_rfl) (fun _ _ _ h => h) rfl ht hS (wanted_yes rfl ht rfl ((decide_eq_false h11))) (fun w hm => ev_nilCheck ht rfl rfl) ?_
          intro a ht
          refine wph_take (i := 9) rfl (by kernel_rfl) (by kernel_rfl) (by kernel_rfl) (fun _ _ _ h => h) rfl ht hS (wanted_yes rfl ht rfl ((decide_eq_false h11))) (fun w hm => ev_fieldAddr ht rfl rfl fo_45_2) ?_
          intro a ht
          refine wph_take (i := 10) rfl (by kernel_rfl) (by kernel_rfl) (by kernel_rfl) (fun _ _ _ h => h) rfl ht hS (wanted_yes rfl ht rfl ((decide_eq_false h11))) (fun w hm => ev_load ht rfl rfl sc_43 (hm.blk_cell 0 rfl ((seg_col _ _ 138).trans ((seg_col _ _ 0).trans rfl)))) ?_
          intro a ht
          refine wph_take (i := 11) rfl (by kernel_rfl) (by kernel_rfl) (by kernel_rfl) (fun _ _ _ h => h) rfl ht hS (wanted_yes rfl ht rfl ((decide_eq_false h11))) (fun w hm => ev_move ht rfl rfl) ?_
          intro a ht
          obtain ⟨t12, et12, H⟩ := bind_get H
          refine wph_take (i := 12) rfl (by kernel_rfl) (by kernel_rfl) (by kernel_rfl) (fun _ _ _ h => h) rfl ht hS (wanted_yes rfl ht rfl ((decide_eq_false h11))) (fun w hm => ev_index_ints ht rfl rfl rfl so_43 (hm.fact (φ := IntsAt As0_3 cs0_4 ms0_5 ls0_6) 1 rfl) et12) ?_
          intro a ht
          refine wph_take (i := 13) rfl (by kernel_rfl) (by kernel_rfl) (by kernel_rfl) (fun _ _ _ h => h) rfl ht hS (wanted_yes rfl ht rfl ((decide_eq_false h11))) (fun w hm => ev_load ht rfl rfl sc_2 (RowAt.cell (hm.fact (φ := IntsAt As0_3 cs0_4 ms0_5 ls0_6) 1 rfl) (ints_get et12) rfl)) ?_
          intro a ht
          refine wph_take (i := 14) rfl (by kernel_rfl) (by kernel_rfl) (by kernel_rfl) (fun _ _ _ h => h) rfl ht hS (wanted_yes rfl ht rfl ((decide_eq_false h11))) (fun w hm => ev_move ht rfl rfl) ?_
          intro a ht
          refine wph_take (i := 15) rfl (by kernel_rfl) (by kernel_rfl) (by kernel_rfl) (fun _ _ _ h => h) rfl ht hS (wanted_yes rfl ht rfl ((decide_eq_false h11))) (fun w hm => ev_nilCheck ht rfl rfl) ?_
          intro a ht
          refine wph_take (i := 16) rfl (by kernel_rfl) (by kernel_rfl) (by kernel_rfl) (fun _ _ _ h => h) rfl ht hS (wanted_yes rfl ht rfl ((decide_eq_false h11))) (fun w hm => ev_fieldAddr ht rfl rfl fo_45_3) ?_
          intro a ht
          refine wph_take (i := 17) rfl (by kernel_rfl) (by kernel_rfl) (by kernel_rfl) (fun _ _ _ h => h) rfl ht hS (wanted_yes rfl ht rfl ((decide_eq_false h11))) (fun w hm => ev_load ht rfl rfl sc_43 (hm.blk_cell 0 rfl ((seg_col _ _ 139).trans ((seg_col _ _ 1).trans rfl)))) ?_
          intro a ht
          refine wph_take (i := 18) rfl (by kernel_rfl) (by kernel_rfl) (by kernel_rfl) (fun _ _ _ h => h) rfl ht hS (wanted_yes rfl ht rfl ((decide_eq_false h11))) (fun w hm => ev_move ht rfl rfl) ?_
          intro a ht
          obtain ⟨t13, et13, H⟩ := bind_get H
          refine wph_take (i := 19) rfl (by kernel_rfl) (by kernel_rfl) (by kernel_rfl) (fun _ _ _ h => h) rfl ht hS (wanted_yes rfl ht rfl ((decide_eq_false h11))) (fun w hm => ev_index_ints ht rfl rfl rfl so_43 (hm.fact (φ := IntsAt As0_7 cs0_8 ms0_9 ls0_10) 2 rfl) et13) ?_
          intro a ht
          refine wph_take (i := 20) rfl (by kernel_rfl) (by kernel_rfl) (by kernel_rfl) (fun _ _ _ h => h) rfl ht hS (wanted_yes rfl ht rfl ((decide_eq_false h11))) (fun w hm => ev_load ht rfl rfl sc_2 (RowAt.cell (hm.fact (φ := IntsAt As0_7 cs0_8 ms0_9 ls0_10) 2 rfl) (ints_get et13) rfl)) ?_
          intro a ht
          refine wph_take (i := 21) rfl (by kernel_rfl) (by kernel_rfl) (by kernel_rfl) (fun _ _ _ h => h) rfl ht hS (wanted_yes rfl ht rfl ((decide_eq_false h11))) (fun w hm => ev_cmp ht rfl rfl rfl rfl) ?_
          intro a ht
          refine wph_take (i := 22) rfl (by kernel_rfl) (by kernel_rfl) (by kernel_rfl) (fun _ _ _ h => h) rfl ht hS (wanted_plain rfl) (fun w hm => ev_pick_no ht rfl rfl (decide_eq_false h11) rfl) ?_
          intro a ht
          refine wph_done (by kernel_rfl) ?_
          refine then_normal ?_
          by_cases h14 : t12 ≠ t13
          · replace H := ite_yes h14 H
            refine wpc_yes ht rfl (decide_eq_true h14) ?_
            refine wp_exit ?_
            refine then_exit ?_
            refine blk_hit ?_
            refine then_normal ?_
            refine wpr ?_
            refine wpl rfl rfl ht (ev_move ht rfl rfl) ?_
            intro a ht
            refine wpl rfl rfl ht (ev_arith ht rfl rfl rfl rfl) ?_
            intro a ht
            refine wpl rfl rfl ht (ev_assign ht rfl rfl) ?_
            intro a ht
            refine wpList_nil ?_
            exact then_normal ⟨q8, by omega, xs0_1, xs0_2, ls0_6, ls0_10, xs0_11, xs0_12, ls0_16, (w64 (xs0_17 + 1)), As0_3, cs0_4, ms0_5, As0_7, cs0_8, ms0_9, As0_13, cs0_14, ms0_15, H, by omega, ht.sub ⟨rfl, rfl, rfl, rfl, rfl, trivial⟩, (hm.pick [0] rfl (by decide)).pickφ [0, 1, 2, 3, 4, 5, 6] rfl⟩
          · replace H := ite_no h14 H
            refine wpc_no ht rfl (decide_eq_false h14) ?_
            refine wp_skip ?_
            refine then_normal ?_
            refine wp_seq ?_
            refine wpr ?_
            refine wpl rfl rfl ht (ev_assign ht rfl rfl) ?_
            intro a ht
            refine wpList_nil ?_
            refine then_normal ?_
            refine wp_seq ?_
            refine wp_seq ?_
            refine wpr ?_
            refine wpl rfl rfl ht (ev_assign ht rfl rfl) ?_
            intro a ht
            refine wpList_nil ?_
            refine then_normal ?_
            refine wp_block ?_
            refine wpLoop (fun q a w => ∃ (bs1_1 : Bool) (xs1_2 : Int), spec_l06Go.l1 q list used xs0_1 xs0_2 ls0_6 ls0_10 xs0_11 xs0_12 ls0_16 xs0_17 bs1_1 xs1_2 = some r ∧ q ≤ q8 ∧ Tm 118 [(0, .pointer (some ⟨b, 0, none⟩)), (1, .slice A4 m4 c4), (2, .int .i64 used), (6, .int .i64 (list.length : Int)), (7, .int .i64 xs0_17), (36, .int .i64 xs0_17), (37, .pointer (some ⟨b, 0, none⟩)), (38, .pointer (some ⟨b, 0, none⟩)), (39, .pointer (some ⟨b, 0 + 0, none⟩)), (40, .pointer (some ⟨b, 0 + 0 + 0, none⟩)), (41, .int .i64 xs0_1.p), (42, .bool (decide (xs0_17 < xs0_1.p))), (43, .bool (decide (xs0_17 < xs0_1.p))), (44, .pointer (some ⟨b, 0, none⟩)), (45, .pointer (some ⟨b, 0, none⟩)), (46, .pointer (some ⟨b, 0 + 279, none⟩)), (47, .int .i64 xs0_12), (48, .pointer (some ⟨b, 0, none⟩)), (49, .pointer (some ⟨b, 0, none⟩)), (50, .pointer (some ⟨b, 0 + 278, none⟩)), (51, .int .i64 xs0_11), (52, .bool (decide (xs0_12 < xs0_11))), (53, .bool (decide (xs0_12 < xs0_11))), (56, .int .i64 used), (57, .int .i64 xs0_17), (58, .int .u64 (wu64 xs0_17)), (59, .int .i64 (shrI .i64 used (wu64 xs0_17))), (60, .int .i64 (bitop .and .i64 (shrI .i64 used (wu64 xs0_17)) 1)), (61, .bool (decide ((bitop .and .i64 (shrI .i64 used (wu64 xs0_17)) 1) = 1))), (62, .bool (decide ((bitop .and .i64 (shrI .i64 used (wu64 xs0_17)) 1) = 1))), (63, .pointer (some ⟨b, 0, none⟩)), (64, .pointer (some ⟨b, 0, none⟩)), (65, .pointer (some ⟨b, 0 + 276, none⟩)), (66, .slice As0_3 ms0_5 cs0_4), (67, .int .i64 (list.length : Int)), (68, .pointer (some (eaddr As0_3 (list.length : Int).toNat 1))), (69, .int .i64 t12), (70, .pointer (some ⟨b, 0, none⟩)), (71, .pointer (some ⟨b, 0, none⟩)), (72, .pointer (some ⟨b, 0 + 277, none⟩)), (73, .slice As0_7 ms0_9 cs0_8), (74, .int .i64 xs0_17), (75, .pointer (some (eaddr As0_7 xs0_17.toNat 1))), (76, .int .i64 t13), (77, .bool (decide (t12 ≠ t13))), (78, .bool (decide (t12 ≠ t13))), (8, .bool bs1_1), (9, .int .i64 xs1_2)] a ∧ Ms X (fps [.blk b 45 (Col.cells s ++ (Col.cells s2 ++ ([.slice A m c, .slice A2 m2 c2, .int .i64 s5, .int .i64 s6, .slice A3 m3 c3])))]) w0 [.blk b 45 (Col.cells xs0_1 ++ (Col.cells xs0_2 ++ ([.slice As0_3 ms0_5 cs0_4, .slice As0_7 ms0_9 cs0_8, .int .i64 xs0_11, .int .i64 xs0_12, .slice As0_13 ms0_15 cs0_14])))] [IntsAt A4 c4 m4 list, IntsAt As0_3 cs0_4 ms0_5 ls0_6, IntsAt As0_7 cs0_8 ms0_9 ls0_10, IntsAt As0_13 cs0_14 ms0_15 ls0_16, IntsAt A c m s3, IntsAt A2 c2 m2 s4, IntsAt A3 c3 m3 s7] w) (k0 := q8) ⟨true, 0, H, Nat.le_refl _, ht.sub ⟨rfl, rfl, rfl, rfl, rfl, rfl, rfl, rfl, rfl, rfl, rfl, rfl, rfl, rfl, rfl, rfl, rfl, rfl, rfl, rfl, rfl, rfl, rfl, rfl, rfl, rfl, rfl, rfl, rfl, rfl, rfl, rfl, rfl, rfl, rfl, rfl, rfl, rfl, rfl, rfl, rfl, rfl, rfl, rfl, rfl, rfl, rfl, rfl, trivial⟩, (hm.pick [0] rfl (by decide)).pickφ [0, 1, 2, 3, 4, 5, 6] rfl⟩ ?_
            clear H ht hm
            intro q15 a w hJ
            obtain ⟨bs1_1, xs1_2, H, hqq15, ht, hm⟩ := hJ
            cases q15 with
            | zero => cases H
            | succ q15 =>
            rw [spec_l06Go.l1] at H
            refine wp_seq ?_
            refine wp_seq ?_
            refine wpr ?_
            refine wpl rfl rfl ht (ev_move ht rfl rfl) ?_
            intro a ht
            refine wpl rfl rfl ht (ev_move ht rfl rfl) ?_
            intro a ht
            refine wpl rfl rfl ht (ev_cmp ht rfl rfl rfl rfl) ?_
            intro a ht
            refine wpl rfl rfl ht (ev_move ht rfl rfl) ?_
            intro a ht
            by_cases h16 : xs1_2 < (list.length : Int)
            · replace H := ite_yes h16 H
              refine wpl_yes rfl ht rfl ((decide_eq_true h16)) ?_
              refine wpl rfl rfl ht (ev_move ht rfl rfl) ?_
              intro a ht
              refine wpl rfl rfl ht (ev_pick_yes ht rfl rfl (decide_eq_true h16) rfl) ?_
              intro a ht
              refine wpList_nil ?_
              refine then_normal ?_
              by_cases h17 : bs1_1 = true
              · replace H := ite_yes h17 H
                refine wpc_yes ht rfl h17 ?_
                refine wp_skip ?_
                refine then_normal ?_
                refine wp_seq ?_
                refine wp_block ?_
                refine wph_begin (fun w => Ms X (fps [.blk b 45 (Col.cells s ++ (Col.cells s2 ++ ([.slice A m c, .slice A2 m2 c2, .int .i64 s5, .int .i64 s6, .slice A3 m3 c3])))]) w0 [.blk b 45 (Col.cells xs0_1 ++ (Col.cells xs0_2 ++ ([.slice As0_3 ms0_5 cs0_4, .slice As0_7 ms0_9 cs0_8, .int .i64 xs0_11, .int .i64 xs0_12, .slice As0_13 ms0_15 cs0_14])))] [IntsAt A4 c4 m4 list, IntsAt As0_3 cs0_4 ms0_5 ls0_6, IntsAt As0_7 cs0_8 ms0_9 ls0_10, IntsAt As0_13 cs0_14 ms0_15 ls0_16, IntsAt A c m s3, IntsAt A2 c2 m2 s4, IntsAt A3 c3 m3 s7] w) mixed ?_
                replace hm := hm.drew
                have hS : Ms X (fps [.blk b 45 (Col.cells s ++ (Col.cells s2 ++ ([.slice A m c, .slice A2 m2 c2, .int .i64 s5, .int .i64 s6, .slice A3 m3 c3])))]) w0 [.blk b 45 (Col.cells xs0_1 ++ (Col.cells xs0_2 ++ ([.slice As0_3 ms0_5 cs0_4, .slice As0_7 ms0_9 cs0_8, .int .i64 xs0_11, .int .i64 xs0_12, .slice As0_13 ms0_15 cs0_14])))] [IntsAt A4 c4 m4 list, IntsAt As0_3 cs0_4 ms0_5 ls0_6, IntsAt As0_7 cs0_8 ms0_9 ls0_10, IntsAt As0_13 cs0_14 ms0_15 ls0_16, IntsAt A c m s3, IntsAt A2 c2 m2 s4, IntsAt A3 c3 m3 s7] w.drew := (hm.pick [0] rfl (by decide)).pickφ [0, 1, 2, 3, 4, 5, 6] rfl
                generalize w.drew = w at hm hS ⊢
                refine wph_take (i := 0) rfl (by kernel_rfl) (by kernel_rfl) (by kernel_rfl) (fun _ _ _ h => h) rfl ht hS (wanted_plain rfl) (fun w hm => ev_move ht rfl rfl) ?_
                intro a ht
                refine wph_take (i := 1) rfl (by kernel_rfl) (by kernel_rfl) (by kernel_rfl) (fun _ _ _ h => h) rfl ht hS (wanted_plain rfl) (fun w hm => ev_nilCheck ht rfl rfl) ?_
                intro a ht
                refine wph_take (i := 2) rfl (by kernel_rfl) (by kernel_rfl) (by kernel_rfl) (fun _ _ _ h => h) rfl ht hS (wanted_plain rfl) (fun w hm => ev_fieldAddr ht rfl rfl fo_45_0) ?_
                intro a ht
                refine wph_take (i := 3) rfl (by kernel_rfl) (by kernel_rfl) (by kernel_rfl) (fun _ _ _ h => h) rfl ht hS (wanted_plain rfl) (fun w hm => ev_load_agg ht rfl rfl (ag_27.trans (by first | rw [Col.length_cells] | rfl)) (hm.seg_col0 0 rfl)) ?_
                intro a ht
                refine wph_take (i := 4) rfl (by kernel_rfl) (by kernel_rfl) (by kernel_rfl) (fun _ _ _ h => h) rfl ht hS (wanted_plain rfl) (fun w hm => ev_move ht rfl rfl) ?_
                intro a ht
                refine wph_take (i := 5) rfl (by kernel_rfl) (by kernel_rfl) (by kernel_rfl) (fun _ _ _ h => h) rfl ht hS (wanted_plain rfl) (fun w hm => ev_move ht rfl rfl) ?_
                intro a ht
                refine wph_take (i := 7) rfl (by kernel_rfl) (by kernel_rfl) (by kernel_rfl) (fun _ _ _ h => h) rfl ht hS (wanted_plain rfl) (fun w hm => ev_move ht rfl rfl) ?_
                intro a ht
                refine wph_take (i := 8) rfl (by kernel_rfl) (by kernel_rfl) (by kernel_rfl) (fun _ _ _ h => h) rfl ht hS (wanted_plain rfl) (fun w hm => ev_nilCheck ht rfl rfl) ?_
                intro a ht
                refine wph_take (i := 9) rfl (by kernel_rfl) (by kernel_rfl) (by kernel_rfl) (fun _ _ _ h => h) rfl ht hS (wanted_plain rfl) (fun w hm => ev_fieldAddr ht rfl rfl fo_45_1) ?_
                intro a ht
                refine wph_take (i := 10) rfl (by kernel_rfl) (by kernel_rfl) (by kernel_rfl) (fun _ _ _ h => h) rfl ht hS (wanted_plain rfl) (fun w hm => ev_load_agg ht rfl rfl (ag_27.trans (by first | rw [Col.length_cells] | rfl)) (hm.seg_col1 0 rfl)) ?_
                intro a ht
                refine wph_take (i := 11) rfl (by kernel_rfl) (by kernel_rfl) (by kernel_rfl) (fun _ _ _ h => h) rfl ht hS (wanted_plain rfl) (fun w hm => ev_move ht rfl rfl) ?_
                intro a ht
                refine wph_take (i := 12) rfl (by kernel_rfl) (by kernel_rfl) (by kernel_rfl) (fun _ _ _ h => h) rfl ht hS (wanted_plain rfl) (fun w hm => ev_move ht rfl rfl) ?_
                intro a ht
                obtain ⟨t13518, et13518, H⟩ := bind_get H
                refine wph_take (i := 13) rfl (by kernel_rfl) (by kernel_rfl) (by kernel_rfl) (fun _ _ _ h => h) rfl ht hS (wanted_plain rfl) (fun w hm => ev_index_ints ht rfl rfl rfl so_43 (hm.fact (φ := IntsAt A4 c4 m4 list) 0 rfl) et13518) ?_
                intro a ht
                refine wph_take (i := 14) rfl (by kernel_rfl) (by kernel_rfl) (by kernel_rfl) (fun _ _ _ h => h) rfl ht hS (wanted_plain rfl) (fun w hm => ev_load ht rfl rfl sc_2 (RowAt.cell (hm.fact (φ := IntsAt A4 c4 m4 list) 0 rfl) (ints_get et13518) rfl)) ?_
                intro a ht
                refine wph_take (i := 15) rfl (by kernel_rfl) (by kernel_rfl) (by kernel_rfl) (fun _ _ _ h => h) rfl ht hS (wanted_plain rfl) (fun w hm => ev_move ht rfl rfl) ?_
                intro a ht
                refine wph_one (i := 6) (by kernel_rfl) (wph_step rfl ?_)
                obtain ⟨t6518, et6518, H⟩ := bind_get H
                have hcall := spec_l01At.calls _ _ xs0_1 xs1_2 (list.length : Int) _ ((fun (hq : Ms _ _ _ ([] ++ [.blk b 45 (Col.cells xs0_1 ++ (Col.cells xs0_2 ++ ([.slice As0_3 ms0_5 cs0_4, .slice As0_7 ms0_9 cs0_8, .int .i64 xs0_11, .int .i64 xs0_12, .slice As0_13 ms0_15 cs0_14])))]) _ _) => hq.lend (φp := []) (allRO_nil)) (hm.pick (own' := [] ++ [.blk b 45 (Col.cells xs0_1 ++ (Col.cells xs0_2 ++ ([.slice As0_3 ms0_5 cs0_4, .slice As0_7 ms0_9 cs0_8, .int .i64 xs0_11, .int .i64 xs0_12, .slice As0_13 ms0_15 cs0_14])))]) [0] rfl (by decide))) et6518
                refine wpl_call _ rfl rfl ht rfl rfl rfl rfl can_51 hcall ?_
                clear hcall
                rintro _ w ⟨rfl, hpost⟩ a ht
                replace hm := (hm.pick (own' := [] ++ [.blk b 45 (Col.cells xs0_1 ++ (Col.cells xs0_2 ++ ([.slice As0_3 ms0_5 cs0_4, .slice As0_7 ms0_9 cs0_8, .int .i64 xs0_11, .int .i64 xs0_12, .slice As0_13 ms0_15 cs0_14])))]) [0] rfl (by decide)).backL hpost
                clear hpost
                have hS : Ms X (fps [.blk b 45 (Col.cells s ++ (Col.cells s2 ++ ([.slice A m c, .slice A2 m2 c2, .int .i64 s5, .int .i64 s6, .slice A3 m3 c3])))]) w0 [.blk b 45 (Col.cells xs0_1 ++ (Col.cells xs0_2 ++ ([.slice As0_3 ms0_5 cs0_4, .slice As0_7 ms0_9 cs0_8, .int .i64 xs0_11, .int .i64 xs0_12, .slice As0_13 ms0_15 cs0_14])))] [IntsAt A4 c4 m4 list, IntsAt As0_3 cs0_4 ms0_5 ls0_6, IntsAt As0_7 cs0_8 ms0_9 ls0_10, IntsAt As0_13 cs0_14 ms0_15 ls0_16, IntsAt A c m s3, IntsAt A2 c2 m2 s4, IntsAt A3 c3 m3 s7] w := (hm.pick [0] rfl (by decide)).pickφ [0, 1, 2, 3, 4, 5, 6] rfl
                refine wpList_nil (qn ⟨hS, ?_⟩)
                refine wph_one (i := 16) (by kernel_rfl) (wph_step rfl ?_)
                obtain ⟨t16518, et16518, H⟩ := bind_get H
                have hcall := spec_l01At.calls _ _ xs0_2 t13518 xs0_17 _ ((fun (hq : Ms _ _ _ ([] ++ [.blk b 45 (Col.cells xs0_1 ++ (Col.cells xs0_2 ++ ([.slice As0_3 ms0_5 cs0_4, .slice As0_7 ms0_9 cs0_8, .int .i64 xs0_11, .int .i64 xs0_12, .slice As0_13 ms0_15 cs0_14])))]) _ _) => hq.lend (φp := []) (allRO_nil)) (hm.pick (own' := [] ++ [.blk b 45 (Col.cells xs0_1 ++ (Col.cells xs0_2 ++ ([.slice As0_3 ms0_5 cs0_4, .slice As0_7 ms0_9 cs0_8, .int .i64 xs0_11, .int .i64 xs0_12, .slice As0_13 ms0_15 cs0_14])))]) [0] rfl (by decide))) et16518
                refine wpl_call _ rfl rfl ht rfl rfl rfl rfl can_51 hcall ?_
                clear hcall
                rintro _ w ⟨rfl, hpost⟩ a ht
                replace hm := (hm.pick (own' := [] ++ [.blk b 45 (Col.cells xs0_1 ++ (Col.cells xs0_2 ++ ([.slice As0_3 ms0_5 cs0_4, .slice As0_7 ms0_9 cs0_8, .int .i64 xs0_11, .int .i64 xs0_12, .slice As0_13 ms0_15 cs0_14])))]) [0] rfl (by decide)).backL hpost
                clear hpost
                have hS : Ms X (fps [.blk b 45 (Col.cells s ++ (Col.cells s2 ++ ([.slice A m c, .slice A2 m2 c2, .int .i64 s5, .int .i64 s6, .slice A3 m3 c3])))]) w0 [.blk b 45 (Col.cells xs0_1 ++ (Col.cells xs0_2 ++ ([.slice As0_3 ms0_5 cs0_4, .slice As0_7 ms0_9 cs0_8, .int .i64 xs0_11, .int .i64 xs0_12, .slice As0_13 ms0_15 cs0_14])))] [IntsAt A4 c4 m4 list, IntsAt As0_3 cs0_4 ms0_5 ls0_6, IntsAt As0_7 cs0_8 ms0_9 ls0_10, IntsAt As0_13 cs0_14 ms0_15 ls0_16, IntsAt A c m s3, IntsAt A2 c2 m2 s4, IntsAt A3 c3 m3 s7] w := (hm.pick [0] rfl (by decide)).pickφ [0, 1, 2, 3, 4, 5, 6] rfl
                refine wpList_nil (qn ⟨hS, ?_⟩)
                refine wph_take (i := 17) rfl (by kernel_rfl) (by kernel_rfl) (by kernel_rfl) (fun _ _ _ h => h) rfl ht hS (wanted_plain rfl) (fun w hm => ev_cmp ht rfl rfl rfl rfl) ?_
                intro a ht
                refine wph_take (i := 18) rfl (by kernel_rfl) (by kernel_rfl) (by kernel_rfl) (fun _ _ _ h => h) rfl ht hS (wanted_plain rfl) (fun w hm => ev_assign ht rfl rfl) ?_
                intro a ht
                refine wph_done (by kernel_rfl) ?_
                refine blk_normal ?_
                refine then_normal ?_
                refine wpr ?_
                refine wpl rfl rfl ht (ev_move ht rfl rfl) ?_
                intro a ht
                refine wpl rfl rfl ht (ev_arith ht rfl rfl rfl rfl) ?_
                intro a ht
                refine wpl rfl rfl ht (ev_assign ht rfl rfl) ?_
                intro a ht
                refine wpList_nil ?_
                exact then_normal ⟨q15, by omega, (decide (t6518 = t16518)), (w64 (xs1_2 + 1)), H, by omega, ht.sub ⟨rfl, rfl, rfl, rfl, rfl, rfl, rfl, rfl, rfl, rfl, rfl, rfl, rfl, rfl, rfl, rfl, rfl, rfl, rfl, rfl, rfl, rfl, rfl, rfl, rfl, rfl, rfl, rfl, rfl, rfl, rfl, rfl, rfl, rfl, rfl, rfl, rfl, rfl, rfl, rfl, rfl, rfl, rfl, rfl, rfl, rfl, rfl, rfl, trivial⟩, (hm.pick [0] rfl (by decide)).pickφ [0, 1, 2, 3, 4, 5, 6] rfl⟩
              · replace H := ite_no h17 H
                refine wpc_no ht rfl (Bool.eq_false_iff.mpr h17) ?_
                refine wp_exit ?_
                refine then_exit ?_
                refine then_exit ?_
                refine blk_hit ?_
                refine then_normal ?_
                refine wp_seq ?_
                refine wpr ?_
                refine wpl rfl rfl ht (ev_move ht rfl rfl) ?_
                intro a ht
                refine wpList_nil ?_
                refine then_normal ?_
                refine wpc_no ht rfl (Bool.eq_false_iff.mpr h17) ?_
                refine wp_skip ?_
                refine blk_normal ?_
                refine then_normal ?_
                refine wpr ?_
                refine wpl rfl rfl ht (ev_move ht rfl rfl) ?_
                intro a ht
                refine wpl rfl rfl ht (ev_arith ht rfl rfl rfl rfl) ?_
                intro a ht
                refine wpl rfl rfl ht (ev_assign ht rfl rfl) ?_
                intro a ht
                refine wpList_nil ?_
                exact then_normal ⟨q15, by omega, xs0_1, xs0_2, ls0_6, ls0_10, xs0_11, xs0_12, ls0_16, (w64 (xs0_17 + 1)), As0_3, cs0_4, ms0_5, As0_7, cs0_8, ms0_9, As0_13, cs0_14, ms0_15, H, by omega, ht.sub ⟨rfl, rfl, rfl, rfl, rfl, trivial⟩, (hm.pick [0] rfl (by decide)).pickφ [0, 1, 2, 3, 4, 5, 6] rfl⟩
            · replace H := ite_no h16 H
              refine wpl_no rfl rfl ht rfl (by rw [(decide_eq_false h16)]; decide) ?_
              intro a ht
              refine wpl rfl rfl ht (ev_pick_no ht rfl rfl (decide_eq_false h16) rfl) ?_
              intro a ht
              refine wpList_nil ?_
              refine then_normal ?_
              refine wpc_no ht rfl rfl ?_
              refine wp_exit ?_
              refine then_exit ?_
              refine then_exit ?_
              refine blk_hit ?_
              refine then_normal ?_
              refine wp_seq ?_
              refine wpr ?_
              refine wpl rfl rfl ht (ev_move ht rfl rfl) ?_
              intro a ht
              refine wpList_nil ?_
              refine then_normal ?_
              by_cases h20018 : bs1_1 = true
              · replace H := ite_yes h20018 H
                refine wpc_yes ht rfl h20018 ?_
                refine wpr ?_
                refine wpl rfl rfl ht (ev_move ht rfl rfl) ?_
                intro a ht
                refine wpl rfl rfl ht (ev_move ht rfl rfl) ?_
                intro a ht
                obtain ⟨t20019, et20019, H⟩ := bind_get H
                have hcall := spec_l01Own.calls _ _ A4 c4 m4 list _ ((fun (hq : Ms _ _ _ ([] ++ [.blk b 45 (Col.cells xs0_1 ++ (Col.cells xs0_2 ++ ([.slice As0_3 ms0_5 cs0_4, .slice As0_7 ms0_9 cs0_8, .int .i64 xs0_11, .int .i64 xs0_12, .slice As0_13 ms0_15 cs0_14])))]) _ _) => hq.lend (φp := [IntsAt A4 c4 m4 list]) (allRO_cons (hq.lendFact 0 rfl) (allRO_nil))) (hm.pick (own' := [] ++ [.blk b 45 (Col.cells xs0_1 ++ (Col.cells xs0_2 ++ ([.slice As0_3 ms0_5 cs0_4, .slice As0_7 ms0_9 cs0_8, .int .i64 xs0_11, .int .i64 xs0_12, .slice As0_13 ms0_15 cs0_14])))]) [0] rfl (by decide))) et20019
                refine wpl_call _ rfl rfl ht rfl rfl rfl rfl can_50 hcall ?_
                clear hcall
                rintro _ w ⟨A20020, c20021, m20022, rfl, hpost⟩ a ht
                replace hm := (hm.pick (own' := [] ++ [.blk b 45 (Col.cells xs0_1 ++ (Col.cells xs0_2 ++ ([.slice As0_3 ms0_5 cs0_4, .slice As0_7 ms0_9 cs0_8, .int .i64 xs0_11, .int .i64 xs0_12, .slice As0_13 ms0_15 cs0_14])))]) [0] rfl (by decide)).backL hpost
                clear hpost
                refine wpl rfl rfl ht (ev_move ht rfl rfl) ?_
                intro a ht
                refine wpl_build_ints (l := [xs0_17]) rfl rfl ht hm rfl und_43 zo_2 sz1_2 (by decide) rfl rfl rfl ?_
                intro A20023 a ht w hm
                obtain ⟨l20027, el20027, H⟩ := bind_get H
                refine wpl_push (r := l20027) 1 0 rfl rfl ht hm rfl ap_43 rfl rfl rfl rfl el20027 ?_
                intro A20024 c20025 m20026 a ht w hm
                refine wpl rfl rfl ht (ev_move ht rfl rfl) ?_
                intro a ht
                refine wpl rfl rfl ht (ev_move ht rfl rfl) ?_
                intro a ht
                refine wpl rfl rfl ht (ev_convert ht rfl rfl und_2 und_88) ?_
                intro a ht
                refine wpl rfl rfl ht (ev_shl ht rfl rfl rfl (wrapU_nonneg _ _ rfl)) ?_
                intro a ht
                refine wpl rfl rfl ht (ev_bit ht rfl rfl rfl rfl) ?_
                intro a ht
                replace hm : Ms _ _ _ _ (IntsAt A20024 c20025 m20026 l20027 :: _) w := hm.shutVec 1 rfl
                obtain ⟨t20028, et20028, H⟩ := bind_get H
                have hcall := ih q15 (by omega) _ _ b As0_3 cs0_4 ms0_5 As0_7 cs0_8 ms0_9 As0_13 cs0_14 ms0_15 A20024 c20025 m20026 xs0_1 xs0_2 ls0_6 ls0_10 xs0_11 xs0_12 ls0_16 l20027 (bitop .or .i64 used (shlI .i64 1 (wu64 xs0_17))) _ ((hm.pick (own' := [.blk b 45 (Col.cells xs0_1 ++ (Col.cells xs0_2 ++ ([.slice As0_3 ms0_5 cs0_4, .slice As0_7 ms0_9 cs0_8, .int .i64 xs0_11, .int .i64 xs0_12, .slice As0_13 ms0_15 cs0_14])))] ++ [.vec A20023 1 2 1 1 (ints ([xs0_17]))]) [1, 0] rfl (by decide)).give (passed := [.blk b 45 (Col.cells xs0_1 ++ (Col.cells xs0_2 ++ ([.slice As0_3 ms0_5 cs0_4, .slice As0_7 ms0_9 cs0_8, .int .i64 xs0_11, .int .i64 xs0_12, .slice As0_13 ms0_15 cs0_14])))]) (rest := [.vec A20023 1 2 1 1 (ints ([xs0_17]))]) (φp := [IntsAt As0_3 cs0_4 ms0_5 ls0_6, IntsAt As0_7 cs0_8 ms0_9 ls0_10, IntsAt As0_13 cs0_14 ms0_15 ls0_16, IntsAt A20024 c20025 m20026 l20027]) [2, 3, 4, 0] rfl) et20028
                refine wpl_call _ rfl rfl ht rfl rfl rfl rfl can_45 hcall ?_
                clear hcall
                rintro _ w ⟨A20029, c20030, m20031, A20032, c20033, m20034, A20035, c20036, m20037, rfl, hpost⟩ a ht
                replace hm := (hm.pick (own' := [.blk b 45 (Col.cells xs0_1 ++ (Col.cells xs0_2 ++ ([.slice As0_3 ms0_5 cs0_4, .slice As0_7 ms0_9 cs0_8, .int .i64 xs0_11, .int .i64 xs0_12, .slice As0_13 ms0_15 cs0_14])))] ++ [.vec A20023 1 2 1 1 (ints ([xs0_17]))]) [1, 0] rfl (by decide)).back hpost
                clear hpost
                refine wpList_nil ?_
                refine blk_normal ?_
                refine then_normal ?_
                refine wpr ?_
                refine wpl rfl rfl ht (ev_move ht rfl rfl) ?_
                intro a ht
                refine wpl rfl rfl ht (ev_arith ht rfl rfl rfl rfl) ?_
                intro a ht
                refine wpl rfl rfl ht (ev_assign ht rfl rfl) ?_
                intro a ht
                refine wpList_nil ?_
                exact then_normal ⟨q15, by omega, t20028.1, t20028.2.1, t20028.2.2.1, t20028.2.2.2.1, t20028.2.2.2.2.1, t20028.2.2.2.2.2.1, t20028.2.2.2.2.2.2, (w64 (xs0_17 + 1)), A20029, c20030, m20031, A20032, c20033, m20034, A20035, c20036, m20037, H, by omega, ht.sub ⟨rfl, rfl, rfl, rfl, rfl, trivial⟩, (hm.pick [0] rfl (by decide)).pickφ [4, 0, 1, 2, 8, 9, 10] rfl⟩
              · replace H := ite_no h20018 H
                refine wpc_no ht rfl (Bool.eq_false_iff.mpr h20018) ?_
                refine wp_skip ?_
                refine blk_normal ?_
                refine then_normal ?_
                refine wpr ?_
                refine wpl rfl rfl ht (ev_move ht rfl rfl) ?_
                intro a ht
                refine wpl rfl rfl ht (ev_arith ht rfl rfl rfl rfl) ?_
                intro a ht
                refine wpl rfl rfl ht (ev_assign ht rfl rfl) ?_
                intro a ht
                refine wpList_nil ?_
                exact then_normal ⟨q15, by omega, xs0_1, xs0_2, ls0_6, ls0_10, xs0_11, xs0_12, ls0_16, (w64 (xs0_17 + 1)), As0_3, cs0_4, ms0_5, As0_7, cs0_8, ms0_9, As0_13, cs0_14, ms0_15, H, by omega, ht.sub ⟨rfl, rfl, rfl, rfl, rfl, trivial⟩, (hm.pick [0] rfl (by decide)).pickφ [0, 1, 2, 3, 4, 5, 6] rfl⟩
      · replace H := ite_no h10 H
        refine wpc_no ht rfl (decide_eq_false h10) ?_
        refine wp_exit ?_
        refine then_exit ?_
        refine then_exit ?_
        refine blk_hit ?_
        have hres := ht.res (P := Try.prog) (w := w) (rs := []) (vs := []) .nil
        obtain rfl := Option.some.inj H
        exact leave_end ht rfl hres ⟨As0_3, cs0_4, ms0_5, As0_7, cs0_8, ms0_9, As0_13, cs0_14, ms0_15, rfl, ((hm.pick [0] rfl (by decide)).pickφ [1, 2, 3] rfl).post fun _ h => h⟩
    · replace H := ite_no h9 H
      refine wph_pass (i := 8) rfl (by kernel_rfl) (by kernel_rfl) (by kernel_rfl) (fun _ _ _ h => h) rfl ht hS (wanted_no rfl ht rfl (by rw [(decide_eq_false h9)]; decide)) ?_
      intro a ht
      refine wph_pass (i := 9) rfl (by kernel_rfl) (by kernel_rfl) (by kernel_rfl) (fun _ _ _ h => h) rfl ht hS (wanted_no rfl ht rfl (by rw [(decide_eq_false h9)]; decide)) ?_
      intro a ht
      refine wph_pass (i := 10) rfl (by kernel_rfl) (by kernel_rfl) (by kernel_rfl) (fun _ _ _ h => h) rfl ht hS (wanted_no rfl ht rfl (by rw [(decide_eq_false h9)]; decide)) ?_
      intro a ht
      refine wph_pass (i := 11) rfl (by kernel_rfl) (by kernel_rfl) (by kernel_rfl) (fun _ _ _ h => h) rfl ht hS (wanted_no rfl ht rfl (by rw [(decide_eq_false h9)]; decide)) ?_
      intro a ht
      refine wph_pass (i := 12) rfl (by kernel_rfl) (by kernel_rfl) (by kernel_rfl) (fun _ _ _ h => h) rfl ht hS (wanted_no rfl ht rfl (by rw [(decide_eq_false h9)]; decide)) ?_
      intro a ht
      refine wph_pass (i := 13) rfl (by kernel_rfl) (by kernel_rfl) (by kernel_rfl) (fun _ _ _ h => h) rfl ht hS (wanted_no rfl ht rfl (by rw [(decide_eq_false h9)]; decide)) ?_
      intro a ht
      refine wph_pass (i := 14) rfl (by kernel_rfl) (by kernel_rfl) (by kernel_rfl) (fun _ _ _ h => h) rfl ht hS (wanted_no rfl ht rfl (by rw [(decide_eq_false h9)]; decide)) ?_
      intro a ht
      refine wph_pass (i := 15) rfl (by kernel_rfl) (by kernel_rfl) (by kernel_rfl) (fun _ _ _ h => h) rfl ht hS (wanted_no rfl ht rfl (by rw [(decide_eq_false h9)]; decide)) ?_
      intro a ht
      refine wph_pass (i := 16) rfl (by kernel_rfl) (by kernel_rfl) (by kernel_rfl) (fun _ _ _ h => h) rfl ht hS (wanted_no rfl ht rfl (by rw [(decide_eq_false h9)]; decide)) ?_
      intro a ht
      refine wph_take (i := 17) rfl (by kernel_rfl) (by kernel_rfl) (by kernel_rfl) (fun _ _ _ h => h) rfl ht hS (wanted_plain rfl) (fun w hm => ev_pick_no ht rfl rfl (decide_eq_false h9) rfl) ?_
      intro a ht
      refine wph_done (by kernel_rfl) ?_
      refine then_normal ?_
      refine wpc_no ht rfl rfl ?_
      refine wp_exit ?_
      refine then_exit ?_
      refine then_exit ?_
      refine blk_hit ?_
      have hres := ht.res (P := Try.prog) (w := w) (rs := []) (vs := []) .nil
      obtain rfl := Option.some.inj H
      exact leave_end ht rfl hres ⟨As0_3, cs0_4, ms0_5, As0_7, cs0_8, ms0_9, As0_13, cs0_14, ms0_15, rfl, ((hm.pick [0] rfl (by decide)).pickφ [1, 2, 3] rfl).post fun _ h => h⟩

end Go.Proofs.Ytbgniopmmankdaa.G
