/- What each Go function computes, as a Lean function, and the proof that it does: written by a program of this session (wip/gen), part 3. -/
import Derived.Test.YtdpamdedomkomaaGFnExactCliqueList2
namespace Go.Proofs.Ytdpamdedomkomaa.G
open Go Go.RowKit Go.Proofs.Ytdpamdedomkomaa.K
set_option linter.unusedVariables false
set_option linter.unusedSimpArgs false

/-! ### spec_l02Go: function 110 (loop.example/g01362/spec.l02Go) -/
mutual
def spec_l02Go.l0 : Nat → List Int → List Int → Int → Int → Int → List (List Int) → Int → Option (List (List Int))
  | 0, _, _, _, _, _, _, _ => none
  | q14 + 1, rows, begin, free, m3, most, ls0_4, xs0_6 => if xs0_6 < (rows.length : Int) then (if (ls0_4.length : Int) < most then (if (bitop .and .i64 (shrI .i64 free (wu64 xs0_6)) 1) = 1 then ((getI rows xs0_6).bind fun t18 => (spec_l01Own.f begin).bind fun t19 => (push t19 xs0_6).bind fun l27 => (spec_l02Go.f q14 rows l27 (shlI .i64 (shrI .i64 (bitop .and .i64 free t18) (wu64 xs0_6)) (wu64 xs0_6)) m3 ls0_4 most).bind fun t28 => spec_l02Go.l0 q14 rows begin free m3 most t28 (w64 (xs0_6 + 1))) else (spec_l02Go.l0 q14 rows begin free m3 most ls0_4 (w64 (xs0_6 + 1)))) else (some ls0_4)) else (some ls0_4)
def spec_l02Go.f : Nat → List Int → List Int → Int → Int → List (List Int) → Int → Option (List (List Int))
  | 0, _, _, _, _, _, _ => none
  | k + 1, rows, begin, free, m3, out, most => if (begin.length : Int) = m3 then ((spec_l01Own.f begin).bind fun t2 => (concatR out ([t2])).bind fun l11 => some l11) else ((spec_l01Ones.f k free).bind fun t12 => if (w64 ((begin.length : Int) + t12)) < m3 then (some out) else (spec_l02Go.l0 k rows begin free m3 most out 0))
end
set_option maxRecDepth 100000 in
set_option maxHeartbeats 1000000 in
theorem spec_l02Go.calls (k : Nat) (X : List Nat) (w0 : World) (A : Option Addr) (c : Nat) (m : Nat) (A2 : Option Addr) (c2 : Nat) (m2 : Nat) (A3 : Option Addr) (c3 : Nat) (m4 : Nat) (vs : List Value) (rows : List Int) (begin : List Int) (free : Int) (m3 : Int) (out : List (List Int)) (most : Int) (r : List (List Int))
    (hp : Pre X w0 [.vec A3 c3 25 1 m4 vs] [IntsAt A c m rows, IntsAt A2 c2 m2 begin, AllInts vs out]) (H : spec_l02Go.f k rows begin free m3 out most = some r) :
    Calls Try.prog 110 [.slice A m c, .slice A2 m2 c2, .int .i64 free, .int .i64 m3, .slice A3 m4 c3, .int .i64 most].toArray w0 (Ret fun v w => ∃ (A_0 : Option Addr) (c_0 : Nat) (n_0 : Nat) (vs_0 : List Value), v = .slice A_0 n_0 c_0 ∧ Post X (fps [.vec A3 c3 25 1 m4 vs]) w0 [.vec A_0 c_0 25 1 n_0 vs_0] [AllInts vs_0 r] w) := by
  induction k using Nat.strongRecOn generalizing X w0 A c m A2 c2 m2 A3 c3 m4 vs rows begin free m3 out most r with
  | _ k ih =>
  cases k with
  | zero => cases H
  | succ k =>
  rw [spec_l02Go.f] at H
  refine enterM (n := 72) hp Try.func110 rfl rfl (Nat.le_of_ble_eq_true rfl) fun a w ht hm => ?_
  induction k using Nat.strongRecOn with
  | _ k ih =>
  refine wp_seq ?_
  refine wpr ?_
  refine wpl rfl rfl ht (ev_assign ht rfl rfl) ?_
  intro a ht
  refine wpList_nil ?_
  refine then_normal ?_
  refine wp_seq ?_
  refine wp_seq ?_
  refine wpr ?_
  refine wpl rfl rfl ht (ev_move ht rfl rfl) ?_
  intro a ht
  refine wpl rfl rfl ht (ev_len_of ht rfl rfl und_25 (hm.fact (φ := IntsAt A2 c2 m2 begin) 1 rfl)) ?_
  intro a ht
  refine wpl rfl rfl ht (ev_move ht rfl rfl) ?_
  intro a ht
  refine wpl rfl rfl ht (ev_cmp ht rfl rfl rfl rfl) ?_
  intro a ht
  refine wpList_nil ?_
  refine then_normal ?_
  by_cases h1 : (begin.length : Int) = m3
  · replace H := ite_yes h1 H
    refine wpc_yes ht rfl (decide_eq_true h1) ?_
    refine wp_seq ?_
    refine wpr ?_
    refine wpl rfl rfl ht (ev_move ht rfl rfl) ?_
    intro a ht
    refine wpl rfl rfl ht (ev_move ht rfl rfl) ?_
    intro a ht
    obtain ⟨t2, et2, H⟩ := bind_get H
    have hcall := spec_l01Own.calls _ _ A2 c2 m2 begin _ ((fun (hq : Ms _ _ _ ([] ++ [.vec A3 c3 25 1 m4 vs]) _ _) => hq.lend (φp := [IntsAt A2 c2 m2 begin]) (allRO_cons (hq.lendFact 1 rfl) (allRO_nil))) (hm.pick (own' := [] ++ [.vec A3 c3 25 1 m4 vs]) [0] rfl (by decide))) et2
    refine wpl_call _ rfl rfl ht rfl rfl rfl rfl can_125 hcall ?_
    clear hcall
    rintro _ w ⟨A4, c5, m6, rfl, hpost⟩ a ht
    replace hm := (hm.pick (own' := [] ++ [.vec A3 c3 25 1 m4 vs]) [0] rfl (by decide)).backL hpost
    clear hpost
    replace hm : Ms _ _ _ _ (IntsAt A4 c5 m6 t2 :: _) w := hm.shutVec 0 rfl
    replace hm : Ms _ _ _ _ (AllInts ([.slice A4 m6 c5]) ([t2]) :: _) w := hm.addφ (allInts_cons (hm.ro 0 rfl) (allInts_nil))
    refine wpl_buildSlice (vs := [.slice A4 m6 c5]) rfl rfl ht hm rfl und_49 zo_25 sz1_25 (by decide) rfl rfl rfl ?_
    intro A7 a ht w hm
    obtain ⟨l11, el11, H⟩ := bind_get H
    replace hm : Ms _ _ _ _ (AllInts (vs ++ ([.slice A4 m6 c5])) l11 :: _) w := hm.addφ (allInts_append el11 (hm.ro 4 rfl) (hm.ro 0 rfl))
    refine wpl_concat_rows (r := l11) 1 0 5 1 rfl rfl ht hm rfl ap_49 rfl rfl rfl rfl rfl rfl el11 ?_
    intro A8 c9 m10 a ht w hm
    refine wpl rfl rfl ht (ev_assign ht rfl rfl) ?_
    intro a ht
    refine wpList_nil ?_
    refine then_normal ?_
    refine wp_ret ?_
    refine then_ret ?_
    have hres := ht.res (P := Try.prog) (w := w) (rs := [.tmp 12]) (vs := [.slice A8 m10 c9]) (.tmp rfl .nil)
    obtain rfl := Option.some.inj H
    exact leave ht rfl hres ⟨A8, c9, m10, (vs ++ ([.slice A4 m6 c5])), rfl, ((hm.pick [1] rfl (by decide)).pickφ [0] rfl).post fun _ h => h⟩
  · replace H := ite_no h1 H
    refine wpc_no ht rfl (decide_eq_false h1) ?_
    refine wp_skip ?_
    refine then_normal ?_
    refine wp_seq ?_
    refine wp_seq ?_
    refine wpr ?_
    refine wpl rfl rfl ht (ev_move ht rfl rfl) ?_
    intro a ht
    refine wpl rfl rfl ht (ev_len_of ht rfl rfl und_25 (hm.fact (φ := IntsAt A2 c2 m2 begin) 1 rfl)) ?_
    intro a ht
    refine wpl rfl rfl ht (ev_move ht rfl rfl) ?_
    intro a ht
    obtain ⟨t12, et12, H⟩ := bind_get H
    have hcall := spec_l01Ones.calls k _ _ free _ ((fun (hq : Ms _ _ _ ([] ++ [.vec A3 c3 25 1 m4 vs]) _ _) => hq.lend (φp := []) (allRO_nil)) (hm.pick (own' := [] ++ [.vec A3 c3 25 1 m4 vs]) [0] rfl (by decide))) et12
    refine wpl_call _ rfl rfl ht rfl rfl rfl rfl can_102 hcall ?_
    clear hcall
    rintro _ w ⟨rfl, hpost⟩ a ht
    replace hm := (hm.pick (own' := [] ++ [.vec A3 c3 25 1 m4 vs]) [0] rfl (by decide)).backL hpost
    clear hpost
    refine wpl rfl rfl ht (ev_arith ht rfl rfl rfl rfl) ?_
    intro a ht
    refine wpl rfl rfl ht (ev_move ht rfl rfl) ?_
    intro a ht
    refine wpl rfl rfl ht (ev_cmp ht rfl rfl rfl rfl) ?_
    intro a ht
    refine wpList_nil ?_
    refine then_normal ?_
    by_cases h13 : (w64 ((begin.length : Int) + t12)) < m3
    · replace H := ite_yes h13 H
      refine wpc_yes ht rfl (decide_eq_true h13) ?_
      refine wp_seq ?_
      refine wpr ?_
      refine wpl rfl rfl ht (ev_move ht rfl rfl) ?_
      intro a ht
      refine wpl rfl rfl ht (ev_assign ht rfl rfl) ?_
      intro a ht
      refine wpList_nil ?_
      refine then_normal ?_
      refine wp_ret ?_
      refine then_ret ?_
      have hres := ht.res (P := Try.prog) (w := w) (rs := [.tmp 12]) (vs := [.slice A3 m4 c3]) (.tmp rfl .nil)
      obtain rfl := Option.some.inj H
      exact leave ht rfl hres ⟨A3, c3, m4, vs, rfl, ((hm.pick [0] rfl (by decide)).pickφ [2] rfl).post fun _ h => h⟩
    · replace H := ite_no h13 H
      refine wpc_no ht rfl (decide_eq_false h13) ?_
      refine wp_skip ?_
      refine then_normal ?_
      refine wp_seq ?_
      refine wp_seq ?_
      refine wpr ?_
      refine wpl rfl rfl ht (ev_assign ht rfl rfl) ?_
      intro a ht
      refine wpList_nil ?_
      refine then_normal ?_
      refine wp_block ?_
      refine wpLoop (fun q a w => ∃ (ls0_4 : List (List Int)) (xs0_6 : Int) (As0_1 : Option Addr) (cs0_2 : Nat) (ms0_3 : Nat) (vss0_5 : List Value), spec_l02Go.l0 q rows begin free m3 most ls0_4 xs0_6 = some r ∧ q ≤ k ∧ Tm 72 [(0, .slice A m c), (1, .slice A2 m2 c2), (2, .int .i64 free), (3, .int .i64 m3), (4, .slice As0_1 ms0_3 cs0_2), (5, .int .i64 most), (12, .slice none 0 0), (13, .int .i64 xs0_6)] a ∧ Ms X (fps [.vec A3 c3 25 1 m4 vs]) w0 [.vec As0_1 cs0_2 25 1 ms0_3 vss0_5] [IntsAt A c m rows, IntsAt A2 c2 m2 begin, AllInts vss0_5 ls0_4, AllInts vs out] w) (k0 := k) ⟨out, 0, A3, c3, m4, vs, H, Nat.le_refl _, ht.sub ⟨rfl, rfl, rfl, rfl, rfl, rfl, rfl, rfl, trivial⟩, (hm.pick [0] rfl (by decide)).pickφ [0, 1, 2, 2] rfl⟩ ?_
      clear H ht hm
      intro q14 a w hJ
      obtain ⟨ls0_4, xs0_6, As0_1, cs0_2, ms0_3, vss0_5, H, hqq14, ht, hm⟩ := hJ
      cases q14 with
      | zero => cases H
      | succ q14 =>
      rw [spec_l02Go.l0] at H
      refine wp_seq ?_
      refine wp_seq ?_
      refine wpr ?_
      refine wpl rfl rfl ht (ev_move ht rfl rfl) ?_
      intro a ht
      refine wpl rfl rfl ht (ev_move ht rfl rfl) ?_
      intro a ht
      refine wpl rfl rfl ht (ev_len_of ht rfl rfl und_25 (hm.fact (φ := IntsAt A c m rows) 0 rfl)) ?_
      intro a ht
      refine wpl rfl rfl ht (ev_cmp ht rfl rfl rfl rfl) ?_
      intro a ht
      refine wpl rfl rfl ht (ev_move ht rfl rfl) ?_
      intro a ht
      by_cases h15 : xs0_6 < (rows.length : Int)
      · replace H := ite_yes h15 H
        refine wpl_yes rfl ht rfl ((decide_eq_true h15)) ?_
        refine wpl rfl rfl ht (ev_move ht rfl rfl) ?_
        intro a ht
        refine wpl_yes rfl ht rfl ((decide_eq_true h15)) ?_
        refine wpl rfl rfl ht (ev_len_rows ht rfl rfl und_49 (hm.rowsOf 0 2 rfl rfl)) ?_
        intro a ht
        refine wpl_yes rfl ht rfl ((decide_eq_true h15)) ?_
        refine wpl rfl rfl ht (ev_move ht rfl rfl) ?_
        intro a ht
        refine wpl_yes rfl ht rfl ((decide_eq_true h15)) ?_
        refine wpl rfl rfl ht (ev_cmp ht rfl rfl rfl rfl) ?_
        intro a ht
        refine wpl rfl rfl ht (ev_pick_yes ht rfl rfl (decide_eq_true h15) rfl) ?_
        intro a ht
        refine wpList_nil ?_
        refine then_normal ?_
        by_cases h16 : (ls0_4.length : Int) < most
        · replace H := ite_yes h16 H
          refine wpc_yes ht rfl (decide_eq_true h16) ?_
          refine wp_skip ?_
          refine then_normal ?_
          refine wp_seq ?_
          refine wp_block ?_
          refine wp_seq ?_
          refine wpr ?_
          refine wpl rfl rfl ht (ev_move ht rfl rfl) ?_
          intro a ht
          refine wpl rfl rfl ht (ev_move ht rfl rfl) ?_
          intro a ht
          refine wpl rfl rfl ht (ev_convert ht rfl rfl und_2 und_68) ?_
          intro a ht
          refine wpl rfl rfl ht (ev_shr ht rfl rfl rfl (wrapU_nonneg _ _ rfl)) ?_
          intro a ht
          refine wpl rfl rfl ht (ev_bit ht rfl rfl rfl rfl) ?_
          intro a ht
          refine wpl rfl rfl ht (ev_cmp ht rfl rfl rfl rfl) ?_
          intro a ht
          refine wpList_nil ?_
          refine then_normal ?_
          by_cases h17 : (bitop .and .i64 (shrI .i64 free (wu64 xs0_6)) 1) = 1
          · replace H := ite_yes h17 H
            refine wpc_yes ht rfl (decide_eq_true h17) ?_
            refine wph_begin (fun w => Ms X (fps [.vec A3 c3 25 1 m4 vs]) w0 [] [IntsAt A c m rows, IntsAt A2 c2 m2 begin, AllInts vss0_5 ls0_4, AllInts vs out] w) mixed ?_
            replace hm := hm.drew
            have hS : Ms X (fps [.vec A3 c3 25 1 m4 vs]) w0 [] [IntsAt A c m rows, IntsAt A2 c2 m2 begin, AllInts vss0_5 ls0_4, AllInts vs out] w.drew := (hm.pick [] rfl (by decide)).pickφ [0, 1, 2, 3] rfl
            generalize w.drew = w at hm hS ⊢
            refine wph_take (i := 0) rfl (by kernel_rfl) (by kernel_rfl) (by kernel_rfl) (fun _ _ _ h => h) rfl ht hS (wanted_plain rfl) (fun w hm => ev_move ht rfl rfl) ?_
            intro a ht
            refine wph_take (i := 1) rfl (by kernel_rfl) (by kernel_rfl) (by kernel_rfl) (fun _ _ _ h => h) rfl ht hS (wanted_plain rfl) (fun w hm => ev_move ht rfl rfl) ?_
            intro a ht
            refine wph_take (i := 3) rfl (by kernel_rfl) (by kernel_rfl) (by kernel_rfl) (fun _ _ _ h => h) rfl ht hS (wanted_plain rfl) (fun w hm => ev_move ht rfl rfl) ?_
            intro a ht
            refine wph_take (i := 6) rfl (by kernel_rfl) (by kernel_rfl) (by kernel_rfl) (fun _ _ _ h => h) rfl ht hS (wanted_plain rfl) (fun w hm => ev_move ht rfl rfl) ?_
            intro a ht
            refine wph_take (i := 7) rfl (by kernel_rfl) (by kernel_rfl) (by kernel_rfl) (fun _ _ _ h => h) rfl ht hS (wanted_plain rfl) (fun w hm => ev_move ht rfl rfl) ?_
            intro a ht
            refine wph_take (i := 8) rfl (by kernel_rfl) (by kernel_rfl) (by kernel_rfl) (fun _ _ _ h => h) rfl ht hS (wanted_plain rfl) (fun w hm => ev_move ht rfl rfl) ?_
            intro a ht
            obtain ⟨t18, et18, H⟩ := bind_get H
            refine wph_take (i := 9) rfl (by kernel_rfl) (by kernel_rfl) (by kernel_rfl) (fun _ _ _ h => h) rfl ht hS (wanted_plain rfl) (fun w hm => ev_index_ints ht rfl rfl rfl so_25 (hm.fact (φ := IntsAt A c m rows) 0 rfl) et18) ?_
            intro a ht
            refine wph_take (i := 10) rfl (by kernel_rfl) (by kernel_rfl) (by kernel_rfl) (fun _ _ _ h => h) rfl ht hS (wanted_plain rfl) (fun w hm => ev_load ht rfl rfl sc_2 (RowAt.cell (hm.fact (φ := IntsAt A c m rows) 0 rfl) (ints_get et18) rfl)) ?_
            intro a ht
            refine wph_take (i := 11) rfl (by kernel_rfl) (by kernel_rfl) (by kernel_rfl) (fun _ _ _ h => h) rfl ht hS (wanted_plain rfl) (fun w hm => ev_bit ht rfl rfl rfl rfl) ?_
            intro a ht
            refine wph_take (i := 12) rfl (by kernel_rfl) (by kernel_rfl) (by kernel_rfl) (fun _ _ _ h => h) rfl ht hS (wanted_plain rfl) (fun w hm => ev_move ht rfl rfl) ?_
            intro a ht
            refine wph_take (i := 13) rfl (by kernel_rfl) (by kernel_rfl) (by kernel_rfl) (fun _ _ _ h => h) rfl ht hS (wanted_plain rfl) (fun w hm => ev_convert ht rfl rfl und_2 und_68) ?_
            intro a ht
            refine wph_take (i := 14) rfl (by kernel_rfl) (by kernel_rfl) (by kernel_rfl) (fun _ _ _ h => h) rfl ht hS (wanted_plain rfl) (fun w hm => ev_shr ht rfl rfl rfl (wrapU_nonneg _ _ rfl)) ?_
            intro a ht
            refine wph_take (i := 15) rfl (by kernel_rfl) (by kernel_rfl) (by kernel_rfl) (fun _ _ _ h => h) rfl ht hS (wanted_plain rfl) (fun w hm => ev_move ht rfl rfl) ?_
            intro a ht
            refine wph_take (i := 16) rfl (by kernel_rfl) (by kernel_rfl) (by kernel_rfl) (fun _ _ _ h => h) rfl ht hS (wanted_plain rfl) (fun w hm => ev_convert ht rfl rfl und_2 und_68) ?_
            intro a ht
            refine wph_take (i := 17) rfl (by kernel_rfl) (by kernel_rfl) (by kernel_rfl) (fun _ _ _ h => h) rfl ht hS (wanted_plain rfl) (fun w hm => ev_shl ht rfl rfl rfl (wrapU_nonneg _ _ rfl)) ?_
            intro a ht
            refine wph_take (i := 18) rfl (by kernel_rfl) (by kernel_rfl) (by kernel_rfl) (fun _ _ _ h => h) rfl ht hS (wanted_plain rfl) (fun w hm => ev_move ht rfl rfl) ?_
            intro a ht
            refine wph_take (i := 19) rfl (by kernel_rfl) (by kernel_rfl) (by kernel_rfl) (fun _ _ _ h => h) rfl ht hS (wanted_plain rfl) (fun w hm => ev_move ht rfl rfl) ?_
            intro a ht
            refine wph_take (i := 20) rfl (by kernel_rfl) (by kernel_rfl) (by kernel_rfl) (fun _ _ _ h => h) rfl ht hS (wanted_plain rfl) (fun w hm => ev_move ht rfl rfl) ?_
            intro a ht
            refine wph_two (i := 2) (j := 4) (by kernel_rfl) ?_ ?_ 
            · refine wph_step rfl ?_
              obtain ⟨t19, et19, H⟩ := bind_get H
              have hcall := spec_l01Own.calls _ _ A2 c2 m2 begin _ ((fun (hq : Ms _ _ _ ([] ++ [.vec As0_1 cs0_2 25 1 ms0_3 vss0_5]) _ _) => hq.lend (φp := [IntsAt A2 c2 m2 begin]) (allRO_cons (hq.lendFact 1 rfl) (allRO_nil))) (hm.pick (own' := [] ++ [.vec As0_1 cs0_2 25 1 ms0_3 vss0_5]) [0] rfl (by decide))) et19
              refine wpl_call _ rfl rfl ht rfl rfl rfl rfl can_125 hcall ?_
              clear hcall
              rintro _ w ⟨A20, c21, m22, rfl, hpost⟩ a ht
              replace hm := (hm.pick (own' := [] ++ [.vec As0_1 cs0_2 25 1 ms0_3 vss0_5]) [0] rfl (by decide)).backL hpost
              clear hpost
              have hS : Ms X (fps [.vec A3 c3 25 1 m4 vs]) w0 [] [IntsAt A c m rows, IntsAt A2 c2 m2 begin, AllInts vss0_5 ls0_4, AllInts vs out] w := (hm.pick [] rfl (by decide)).pickφ [0, 1, 2, 3] rfl
              refine wpList_nil (qn ⟨hS, ?_⟩)
              refine wph_one (i := 4) (by kernel_rfl) (wph_step rfl ?_)
              refine wpl_build_ints (l := [xs0_6]) rfl rfl ht hm rfl und_25 zo_2 sz1_2 (by decide) rfl rfl rfl ?_
              intro A23 a ht w hm
              have hS : Ms X (fps [.vec A3 c3 25 1 m4 vs]) w0 [] [IntsAt A c m rows, IntsAt A2 c2 m2 begin, AllInts vss0_5 ls0_4, AllInts vs out] w := (hm.pick [] rfl (by decide)).pickφ [0, 1, 2, 3] rfl
              refine wpList_nil (qn ⟨hS, ?_⟩)
              refine wph_one (i := 5) (by kernel_rfl) (wph_step rfl ?_)
              obtain ⟨l27, el27, H⟩ := bind_get H
              refine wpl_push (r := l27) 1 0 rfl rfl ht hm rfl ap_25 rfl rfl rfl rfl el27 ?_
              intro A24 c25 m26 a ht w hm
              have hS : Ms X (fps [.vec A3 c3 25 1 m4 vs]) w0 [] [IntsAt A c m rows, IntsAt A2 c2 m2 begin, AllInts vss0_5 ls0_4, AllInts vs out] w := (hm.pick [] rfl (by decide)).pickφ [0, 1, 2, 3] rfl
              refine wpList_nil (qn ⟨hS, ?_⟩)
              refine wph_one (i := 21) (by kernel_rfl) (wph_step rfl ?_)
              replace hm : Ms _ _ _ _ (IntsAt A24 c25 m26 l27 :: _) w := hm.shutVec 1 rfl
              obtain ⟨t28, et28, H⟩ := bind_get H
              have hcall := ih q14 (by omega) _ _ A c m A24 c25 m26 As0_1 cs0_2 ms0_3 vss0_5 rows l27 (shlI .i64 (shrI .i64 (bitop .and .i64 free t18) (wu64 xs0_6)) (wu64 xs0_6)) m3 ls0_4 most _ ((hm.pick (own' := [.vec As0_1 cs0_2 25 1 ms0_3 vss0_5] ++ [.vec A23 1 2 1 1 (ints ([xs0_6]))]) [1, 0] rfl (by decide)).give (passed := [.vec As0_1 cs0_2 25 1 ms0_3 vss0_5]) (rest := [.vec A23 1 2 1 1 (ints ([xs0_6]))]) (φp := [IntsAt A c m rows, IntsAt A24 c25 m26 l27, AllInts vss0_5 ls0_4]) [1, 0, 3] rfl) et28
              refine wpl_call _ rfl rfl ht rfl rfl rfl rfl can_110 hcall ?_
              clear hcall
              rintro _ w ⟨A29, c30, m31, vs32, rfl, hpost⟩ a ht
              replace hm := (hm.pick (own' := [.vec As0_1 cs0_2 25 1 ms0_3 vss0_5] ++ [.vec A23 1 2 1 1 (ints ([xs0_6]))]) [1, 0] rfl (by decide)).back hpost
              clear hpost
              have hS : Ms X (fps [.vec A3 c3 25 1 m4 vs]) w0 [] [IntsAt A c m rows, IntsAt A2 c2 m2 begin, AllInts vss0_5 ls0_4, AllInts vs out] w := (hm.pick [] rfl (by decide)).pickφ [2, 3, 4, 5] rfl
              refine wpList_nil (qn ⟨hS, ?_⟩)
              refine wph_take (i := 22) rfl (by kernel_rfl) (by kernel_rfl) (by kernel_rfl) (fun _ _ _ h => h) rfl ht hS (wanted_plain rfl) (fun w hm => ev_assign ht rfl rfl) ?_
              intro a ht
              refine wph_done (by kernel_rfl) ?_
              refine blk_normal ?_
              refine then_normal ?_
              refine wpr ?_
              refine wpl rfl rfl ht (ev_move ht rfl rfl) ?_
              intro a ht
              refine wpl rfl rfl ht (ev_arith ht rfl rfl rfl rfl) ?_
              intro a ht
              refine wpl rfl rfl ht (ev_assign ht rfl rfl) ?_
              intro a ht
              refine wpList_nil ?_
              exact then_normal ⟨q14, by omega, t28, (w64 (xs0_6 + 1)), A29, c30, m31, vs32, H, by omega, ht.sub ⟨rfl, rfl, rfl, rfl, rfl, rfl, rfl, rfl, trivial⟩, (hm.pick [0] rfl (by decide)).pickφ [2, 3, 0, 5] rfl⟩
            · refine wph_step rfl ?_
              refine wpl_build_ints (l := [xs0_6]) rfl rfl ht hm rfl und_25 zo_2 sz1_2 (by decide) rfl rfl rfl ?_
              intro A19 a ht w hm
              have hS : Ms X (fps [.vec A3 c3 25 1 m4 vs]) w0 [] [IntsAt A c m rows, IntsAt A2 c2 m2 begin, AllInts vss0_5 ls0_4, AllInts vs out] w := (hm.pick [] rfl (by decide)).pickφ [0, 1, 2, 3] rfl
              refine wpList_nil (qn ⟨hS, ?_⟩)
              refine wph_one (i := 2) (by kernel_rfl) (wph_step rfl ?_)
              obtain ⟨t20, et20, H⟩ := bind_get H
              have hcall := spec_l01Own.calls _ _ A2 c2 m2 begin _ ((fun (hq : Ms _ _ _ ([] ++ [.vec A19 1 2 1 1 (ints ([xs0_6])), .vec As0_1 cs0_2 25 1 ms0_3 vss0_5]) _ _) => hq.lend (φp := [IntsAt A2 c2 m2 begin]) (allRO_cons (hq.lendFact 1 rfl) (allRO_nil))) (hm.pick (own' := [] ++ [.vec A19 1 2 1 1 (ints ([xs0_6])), .vec As0_1 cs0_2 25 1 ms0_3 vss0_5]) [0, 1] rfl (by decide))) et20
              refine wpl_call _ rfl rfl ht rfl rfl rfl rfl can_125 hcall ?_
              clear hcall
              rintro _ w ⟨A21, c22, m23, rfl, hpost⟩ a ht
              replace hm := (hm.pick (own' := [] ++ [.vec A19 1 2 1 1 (ints ([xs0_6])), .vec As0_1 cs0_2 25 1 ms0_3 vss0_5]) [0, 1] rfl (by decide)).backL hpost
              clear hpost
              have hS : Ms X (fps [.vec A3 c3 25 1 m4 vs]) w0 [] [IntsAt A c m rows, IntsAt A2 c2 m2 begin, AllInts vss0_5 ls0_4, AllInts vs out] w := (hm.pick [] rfl (by decide)).pickφ [0, 1, 2, 3] rfl
              refine wpList_nil (qn ⟨hS, ?_⟩)
              refine wph_one (i := 5) (by kernel_rfl) (wph_step rfl ?_)
              obtain ⟨l27, el27, H⟩ := bind_get H
              refine wpl_push (r := l27) 0 1 rfl rfl ht hm rfl ap_25 rfl rfl rfl rfl el27 ?_
              intro A24 c25 m26 a ht w hm
              have hS : Ms X (fps [.vec A3 c3 25 1 m4 vs]) w0 [] [IntsAt A c m rows, IntsAt A2 c2 m2 begin, AllInts vss0_5 ls0_4, AllInts vs out] w := (hm.pick [] rfl (by decide)).pickφ [0, 1, 2, 3] rfl
              refine wpList_nil (qn ⟨hS, ?_⟩)
              refine wph_one (i := 21) (by kernel_rfl) (wph_step rfl ?_)
              replace hm : Ms _ _ _ _ (IntsAt A24 c25 m26 l27 :: _) w := hm.shutVec 0 rfl
              obtain ⟨t28, et28, H⟩ := bind_get H
              have hcall := ih q14 (by omega) _ _ A c m A24 c25 m26 As0_1 cs0_2 ms0_3 vss0_5 rows l27 (shlI .i64 (shrI .i64 (bitop .and .i64 free t18) (wu64 xs0_6)) (wu64 xs0_6)) m3 ls0_4 most _ ((hm.pick (own' := [.vec As0_1 cs0_2 25 1 ms0_3 vss0_5] ++ [.vec A19 1 2 1 1 (ints ([xs0_6]))]) [1, 0] rfl (by decide)).give (passed := [.vec As0_1 cs0_2 25 1 ms0_3 vss0_5]) (rest := [.vec A19 1 2 1 1 (ints ([xs0_6]))]) (φp := [IntsAt A c m rows, IntsAt A24 c25 m26 l27, AllInts vss0_5 ls0_4]) [1, 0, 3] rfl) et28
              refine wpl_call _ rfl rfl ht rfl rfl rfl rfl can_110 hcall ?_
              clear hcall
              rintro _ w ⟨A29, c30, m31, vs32, rfl, hpost⟩ a ht
              replace hm := (hm.pick (own' := [.vec As0_1 cs0_2 25 1 ms0_3 vss0_5] ++ [.vec A19 1 2 1 1 (ints ([xs0_6]))]) [1, 0] rfl (by decide)).back hpost
              clear hpost
              have hS : Ms X (fps [.vec A3 c3 25 1 m4 vs]) w0 [] [IntsAt A c m rows, IntsAt A2 c2 m2 begin, AllInts vss0_5 ls0_4, AllInts vs out] w := (hm.pick [] rfl (by decide)).pickφ [2, 3, 4, 5] rfl
              refine wpList_nil (qn ⟨hS, ?_⟩)
              refine wph_take (i := 22) rfl (by kernel_rfl) (by kernel_rfl) (by kernel_rfl) (fun _ _ _ h => h) rfl ht hS (wanted_plain rfl) (fun w hm => ev_assign ht rfl rfl) ?_
              intro a ht
              refine wph_done (by kernel_rfl) ?_
              refine blk_normal ?_
              refine then_normal ?_
              refine wpr ?_
              refine wpl rfl rfl ht (ev_move ht rfl rfl) ?_
              intro a ht
              refine wpl rfl rfl ht (ev_arith ht rfl rfl rfl rfl) ?_
              intro a ht
              refine wpl rfl rfl ht (ev_assign ht rfl rfl) ?_
              intro a ht
              refine wpList_nil ?_
              exact then_normal ⟨q14, by omega, t28, (w64 (xs0_6 + 1)), A29, c30, m31, vs32, H, by omega, ht.sub ⟨rfl, rfl, rfl, rfl, rfl, rfl, rfl, rfl, trivial⟩, (hm.pick [0] rfl (by decide)).pickφ [2, 3, 0, 5] rfl⟩
          · replace H := ite_no h17 H
            refine wpc_no ht rfl (decide_eq_false h17) ?_
            refine wp_skip ?_
            refine blk_normal ?_
            refine then_normal ?_
            refine wpr ?_
            refine wpl rfl rfl ht (ev_move ht rfl rfl) ?_
            intro a ht
            refine wpl rfl rfl ht (ev_arith ht rfl rfl rfl rfl) ?_
            intro a ht
            refine wpl rfl rfl ht (ev_assign ht rfl rfl) ?_
            intro a ht
            refine wpList_nil ?_
            exact then_normal ⟨q14, by omega, ls0_4, (w64 (xs0_6 + 1)), As0_1, cs0_2, ms0_3, vss0_5, H, by omega, ht.sub ⟨rfl, rfl, rfl, rfl, rfl, rfl, rfl, rfl, trivial⟩, (hm.pick [0] rfl (by decide)).pickφ [0, 1, 2, 3] rfl⟩
        · replace H := ite_no h16 H
          refine wpc_no ht rfl (decide_eq_false h16) ?_
          refine wp_exit ?_
          refine then_exit ?_
          refine then_exit ?_
          refine blk_hit ?_
          refine then_normal ?_
          refine wp_seq ?_
          refine wpr ?_
          refine wpl rfl rfl ht (ev_move ht rfl rfl) ?_
          intro a ht
          refine wpl rfl rfl ht (ev_assign ht rfl rfl) ?_
          intro a ht
          refine wpList_nil ?_
          refine then_normal ?_
          refine wp_ret ?_
          have hres := ht.res (P := Try.prog) (w := w) (rs := [.tmp 12]) (vs := [.slice As0_1 ms0_3 cs0_2]) (.tmp rfl .nil)
          obtain rfl := Option.some.inj H
          exact leave ht rfl hres ⟨As0_1, cs0_2, ms0_3, vss0_5, rfl, ((hm.pick [0] rfl (by decide)).pickφ [2] rfl).post fun _ h => h⟩
      · replace H := ite_no h15 H
        refine wpl_no rfl rfl ht rfl (by rw [(decide_eq_false h15)]; decide) ?_
        intro a ht
        refine wpl_no rfl rfl ht rfl (by rw [(decide_eq_false h15)]; decide) ?_
        intro a ht
        refine wpl_no rfl rfl ht rfl (by rw [(decide_eq_false h15)]; decide) ?_
        intro a ht
        refine wpl_no rfl rfl ht rfl (by rw [(decide_eq_false h15)]; decide) ?_
        intro a ht
        refine wpl rfl rfl ht (ev_pick_no ht rfl rfl (decide_eq_false h15) rfl) ?_
        intro a ht
        refine wpList_nil ?_
        refine then_normal ?_
        refine wpc_no ht rfl rfl ?_
        refine wp_exit ?_
        refine then_exit ?_
        refine then_exit ?_
        refine blk_hit ?_
        refine then_normal ?_
        refine wp_seq ?_
        refine wpr ?_
        refine wpl rfl rfl ht (ev_move ht rfl rfl) ?_
        intro a ht
        refine wpl rfl rfl ht (ev_assign ht rfl rfl) ?_
        intro a ht
        refine wpList_nil ?_
        refine then_normal ?_
        refine wp_ret ?_
        have hres := ht.res (P := Try.prog) (w := w) (rs := [.tmp 12]) (vs := [.slice As0_1 ms0_3 cs0_2]) (.tmp rfl .nil)
        obtain rfl := Option.some.inj H
        exact leave ht rfl hres ⟨As0_1, cs0_2, ms0_3, vss0_5, rfl, ((hm.pick [0] rfl (by decide)).pickφ [2] rfl).post fun _ h => h⟩

/-! ### spec_l02List: function 79 (loop.example/g01362/spec.l02List) -/
def spec_l02List.f (k : Nat) (x : Col) (c : Int) (m : Int) (most : Int) : Option (List (List Int)) := (spec_l02Rows.f k x c).bind fun t2 => (spec_l02Go.f k t2 ([] : List Int) (w64 ((shlI .i64 1 (wu64 x.p)) - 1)) m ([] : List (List Int)) most).bind fun t8 => some t8
set_option maxRecDepth 100000 in
set_option maxHeartbeats 1000000 in
theorem spec_l02List.calls (k : Nat) (X : List Nat) (w0 : World)  (x : Col) (c : Int) (m : Int) (most : Int) (r : List (List Int))
    (hp : Pre X w0 [] []) (H : spec_l02List.f k x c m most = some r) :
    Calls Try.prog 79 [.agg (Col.cells x).toArray, .int .i64 c, .int .i64 m, .int .i64 most].toArray w0 (Ret fun v w => ∃ (A_0 : Option Addr) (c_0 : Nat) (n_0 : Nat) (vs_0 : List Value), v = .slice A_0 n_0 c_0 ∧ Post X (fps []) w0 [.vec A_0 c_0 25 1 n_0 vs_0] [AllInts vs_0 r] w) := by
  unfold spec_l02List.f at H
  refine enterM (n := 22) hp Try.func79 rfl rfl (Nat.le_of_ble_eq_true rfl) fun a w ht hm => ?_
  refine wp_seq ?_
  refine wpr ?_
  refine wpl_box rfl rfl ht hm rfl rfl rfl ?_
  intro b1 a ht w hm
  refine wpl rfl rfl ht (ev_assign ht rfl rfl) ?_
  intro a ht
  refine wpList_nil ?_
  refine then_normal ?_
  refine wp_seq ?_
  refine wph_begin (fun w => Ms X (fps []) w0 [.blk b1 28 (Col.cells x)] [] w) mixed ?_
  replace hm := hm.drew
  have hS : Ms X (fps []) w0 [.blk b1 28 (Col.cells x)] [] w.drew := (hm.pick [0] rfl (by decide)).pickφ [] rfl
  generalize w.drew = w at hm hS ⊢
  refine wph_take (i := 0) rfl (by kernel_rfl) (by kernel_rfl) (by kernel_rfl) (fun _ _ _ h => h) rfl ht hS (wanted_plain rfl) (fun w hm => ev_load_agg ht rfl rfl (ag_28.trans (by first | rw [Col.length_cells] | rfl)) (hm.blk_all 0 rfl)) ?_
  intro a ht
  refine wph_take (i := 1) rfl (by kernel_rfl) (by kernel_rfl) (by kernel_rfl) (fun _ _ _ h => h) rfl ht hS (wanted_plain rfl) (fun w hm => ev_move ht rfl rfl) ?_
  intro a ht
  refine wph_take (i := 4) rfl (by kernel_rfl) (by kernel_rfl) (by kernel_rfl) (fun _ _ _ h => h) rfl ht hS (wanted_plain rfl) (fun w hm => ev_fieldAddr ht rfl rfl fo_28_0) ?_
  intro a ht
  refine wph_take (i := 5) rfl (by kernel_rfl) (by kernel_rfl) (by kernel_rfl) (fun _ _ _ h => h) rfl ht hS (wanted_plain rfl) (fun w hm => ev_load ht rfl rfl sc_2 (hm.blk_cell 0 rfl rfl)) ?_
  intro a ht
  refine wph_take (i := 6) rfl (by kernel_rfl) (by kernel_rfl) (by kernel_rfl) (fun _ _ _ h => h) rfl ht hS (wanted_plain rfl) (fun w hm => ev_convert ht rfl rfl und_2 und_68) ?_
  intro a ht
  refine wph_take (i := 7) rfl (by kernel_rfl) (by kernel_rfl) (by kernel_rfl) (fun _ _ _ h => h) rfl ht hS (wanted_plain rfl) (fun w hm => ev_shl ht rfl rfl rfl (wrapU_nonneg _ _ rfl)) ?_
  intro a ht
  refine wph_take (i := 8) rfl (by kernel_rfl) (by kernel_rfl) (by kernel_rfl) (fun _ _ _ h => h) rfl ht hS (wanted_plain rfl) (fun w hm => ev_arith ht rfl rfl rfl rfl) ?_
  intro a ht
  refine wph_take (i := 9) rfl (by kernel_rfl) (by kernel_rfl) (by kernel_rfl) (fun _ _ _ h => h) rfl ht hS (wanted_plain rfl) (fun w hm => ev_move ht rfl rfl) ?_
  intro a ht
  refine wph_take (i := 11) rfl (by kernel_rfl) (by kernel_rfl) (by kernel_rfl) (fun _ _ _ h => h) rfl ht hS (wanted_plain rfl) (fun w hm => ev_move ht rfl rfl) ?_
  intro a ht
  refine wph_three (i := 2) (j := 3) (l := 10) (by kernel_rfl) ?_ ?_ ?_ 
  · refine wph_step rfl ?_
    obtain ⟨t2, et2, H⟩ := bind_get H
    have hcall := spec_l02Rows.calls k _ _ x c _ ((fun (hq : Ms _ _ _ ([] ++ [.blk b1 28 (Col.cells x)]) _ _) => hq.lend (φp := []) (allRO_nil)) (hm.pick (own' := [] ++ [.blk b1 28 (Col.cells x)]) [0] rfl (by decide))) et2
    refine wpl_call _ rfl rfl ht rfl rfl rfl rfl can_59 hcall ?_
    clear hcall
    rintro _ w ⟨A3, c4, m5, rfl, hpost⟩ a ht
    replace hm := (hm.pick (own' := [] ++ [.blk b1 28 (Col.cells x)]) [0] rfl (by decide)).backL hpost
    clear hpost
    have hS : Ms X (fps []) w0 [.blk b1 28 (Col.cells x)] [] w := (hm.pick [1] rfl (by decide)).pickφ [] rfl
    refine wpList_nil (qn ⟨hS, ?_⟩)
    refine wph_two (i := 3) (j := 10) (by kernel_rfl) ?_ ?_ 
    · refine wph_step rfl ?_
      refine wpl_build_ints (l := ([] : List Int)) rfl rfl ht hm rfl und_25 zo_2 sz1_2 (by decide) rfl rfl rfl ?_
      intro A6 a ht w hm
      have hS : Ms X (fps []) w0 [.blk b1 28 (Col.cells x)] [] w := (hm.pick [2] rfl (by decide)).pickφ [] rfl
      refine wpList_nil (qn ⟨hS, ?_⟩)
      refine wph_one (i := 10) (by kernel_rfl) (wph_step rfl ?_)
      replace hm : Ms _ _ _ _ (AllInts ([]) ([] : List (List Int)) :: _) w := hm.addφ (allInts_nil)
      refine wpl_buildSlice (vs := []) rfl rfl ht hm rfl und_49 zo_25 sz1_25 (by decide) rfl rfl rfl ?_
      intro A7 a ht w hm
      have hS : Ms X (fps []) w0 [.blk b1 28 (Col.cells x)] [] w := (hm.pick [3] rfl (by decide)).pickφ [] rfl
      refine wpList_nil (qn ⟨hS, ?_⟩)
      refine wph_one (i := 12) (by kernel_rfl) (wph_step rfl ?_)
      replace hm : Ms _ _ _ _ (IntsAt A3 c4 m5 t2 :: _) w := hm.shutVec 2 rfl
      replace hm : Ms _ _ _ _ (IntsAt A6 0 0 ([] : List Int) :: _) w := hm.shutVec 1 rfl
      obtain ⟨t8, et8, H⟩ := bind_get H
      have hcall := spec_l02Go.calls k _ _ A3 c4 m5 A6 0 0 A7 0 0 ([]) t2 ([] : List Int) (w64 ((shlI .i64 1 (wu64 x.p)) - 1)) m ([] : List (List Int)) most _ ((hm.pick (own' := [.vec A7 0 25 1 0 ([])] ++ [.blk b1 28 (Col.cells x)]) [0, 1] rfl (by decide)).give (passed := [.vec A7 0 25 1 0 ([])]) (rest := [.blk b1 28 (Col.cells x)]) (φp := [IntsAt A3 c4 m5 t2, IntsAt A6 0 0 ([] : List Int), AllInts ([]) ([] : List (List Int))]) [1, 0, 2] rfl) et8
      refine wpl_call _ rfl rfl ht rfl rfl rfl rfl can_110 hcall ?_
      clear hcall
      rintro _ w ⟨A9, c10, m11, vs12, rfl, hpost⟩ a ht
      replace hm := (hm.pick (own' := [.vec A7 0 25 1 0 ([])] ++ [.blk b1 28 (Col.cells x)]) [0, 1] rfl (by decide)).back hpost
      clear hpost
      have hS : Ms X (fps []) w0 [.blk b1 28 (Col.cells x)] [] w := (hm.pick [1] rfl (by decide)).pickφ [] rfl
      refine wpList_nil (qn ⟨hS, ?_⟩)
      refine wph_take (i := 13) rfl (by kernel_rfl) (by kernel_rfl) (by kernel_rfl) (fun _ _ _ h => h) rfl ht hS (wanted_plain rfl) (fun w hm => ev_assign ht rfl rfl) ?_
      intro a ht
      refine wph_done (by kernel_rfl) ?_
      refine then_normal ?_
      refine wp_ret ?_
      have hres := ht.res (P := Try.prog) (w := w) (rs := [.tmp 8]) (vs := [.slice A9 m11 c10]) (.tmp rfl .nil)
      obtain rfl := Option.some.inj H
      exact leave ht rfl hres ⟨A9, c10, m11, vs12, rfl, ((hm.pick [0] rfl (by decide)).pickφ [0] rfl).post fun _ h => h⟩
    · refine wph_step rfl ?_
      replace hm : Ms _ _ _ _ (AllInts ([]) ([] : List (List Int)) :: _) w := hm.addφ (allInts_nil)
      refine wpl_buildSlice (vs := []) rfl rfl ht hm rfl und_49 zo_25 sz1_25 (by decide) rfl rfl rfl ?_
      intro A6 a ht w hm
      have hS : Ms X (fps []) w0 [.blk b1 28 (Col.cells x)] [] w := (hm.pick [2] rfl (by decide)).pickφ [] rfl
      refine wpList_nil (qn ⟨hS, ?_⟩)
      refine wph_one (i := 3) (by kernel_rfl) (wph_step rfl ?_)
      refine wpl_build_ints (l := ([] : List Int)) rfl rfl ht hm rfl und_25 zo_2 sz1_2 (by decide) rfl rfl rfl ?_
      intro A7 a ht w hm
      have hS : Ms X (fps []) w0 [.blk b1 28 (Col.cells x)] [] w := (hm.pick [3] rfl (by decide)).pickφ [] rfl
      refine wpList_nil (qn ⟨hS, ?_⟩)
      refine wph_one (i := 12) (by kernel_rfl) (wph_step rfl ?_)
      replace hm : Ms _ _ _ _ (IntsAt A3 c4 m5 t2 :: _) w := hm.shutVec 2 rfl
      replace hm : Ms _ _ _ _ (IntsAt A7 0 0 ([] : List Int) :: _) w := hm.shutVec 0 rfl
      obtain ⟨t8, et8, H⟩ := bind_get H
      have hcall := spec_l02Go.calls k _ _ A3 c4 m5 A7 0 0 A6 0 0 ([]) t2 ([] : List Int) (w64 ((shlI .i64 1 (wu64 x.p)) - 1)) m ([] : List (List Int)) most _ ((hm.pick (own' := [.vec A6 0 25 1 0 ([])] ++ [.blk b1 28 (Col.cells x)]) [0, 1] rfl (by decide)).give (passed := [.vec A6 0 25 1 0 ([])]) (rest := [.blk b1 28 (Col.cells x)]) (φp := [IntsAt A3 c4 m5 t2, IntsAt A7 0 0 ([] : List Int), AllInts ([]) ([] : List (List Int))]) [1, 0, 2] rfl) et8
      refine wpl_call _ rfl rfl ht rfl rfl rfl rfl can_110 hcall ?_
      clear hcall
      rintro _ w ⟨A9, c10, m11, vs12, rfl, hpost⟩ a ht
      replace hm := (hm.pick (own' := [.vec A6 0 25 1 0 ([])] ++ [.blk b1 28 (Col.cells x)]) [0, 1] rfl (by decide)).back hpost
      clear hpost
      have hS : Ms X (fps []) w0 [.blk b1 28 (Col.cells x)] [] w := (hm.pick [1] rfl (by decide)).pickφ [] rfl
      refine wpList_nil (qn ⟨hS, ?_⟩)
      refine wph_take (i := 13) rfl (by kernel_rfl) (by kernel_rfl) (by kernel_rfl) (fun _ _ _ h => h) rfl ht hS (wanted_plain rfl) (fun w hm => ev_assign ht rfl rfl) ?_
      intro a ht
      refine wph_done (by kernel_rfl) ?_
      refine then_normal ?_
      refine wp_ret ?_
      have hres := ht.res (P := Try.prog) (w := w) (rs := [.tmp 8]) (vs := [.slice A9 m11 c10]) (.tmp rfl .nil)
      obtain rfl := Option.some.inj H
      exact leave ht rfl hres ⟨A9, c10, m11, vs12, rfl, ((hm.pick [0] rfl (by decide)).pickφ [0] rfl).post fun _ h => h⟩
  · refine wph_step rfl ?_
    refine wpl_build_ints (l := ([] : List Int)) rfl rfl ht hm rfl und_25 zo_2 sz1_2 (by decide) rfl rfl rfl ?_
    intro A2 a ht w hm
    have hS : Ms X (fps []) w0 [.blk b1 28 (Col.cells x)] [] w := (hm.pick [1] rfl (by decide)).pickφ [] rfl
    refine wpList_nil (qn ⟨hS, ?_⟩)
    refine wph_two (i := 2) (j := 10) (by kernel_rfl) ?_ ?_ 
    · refine wph_step rfl ?_
      obtain ⟨t3, et3, H⟩ := bind_get H
      have hcall := spec_l02Rows.calls k _ _ x c _ ((fun (hq : Ms _ _ _ ([] ++ [.vec A2 0 2 1 0 (ints ([] : List Int)), .blk b1 28 (Col.cells x)]) _ _) => hq.lend (φp := []) (allRO_nil)) (hm.pick (own' := [] ++ [.vec A2 0 2 1 0 (ints ([] : List Int)), .blk b1 28 (Col.cells x)]) [0, 1] rfl (by decide))) et3
      refine wpl_call _ rfl rfl ht rfl rfl rfl rfl can_59 hcall ?_
      clear hcall
      rintro _ w ⟨A4, c5, m6, rfl, hpost⟩ a ht
      replace hm := (hm.pick (own' := [] ++ [.vec A2 0 2 1 0 (ints ([] : List Int)), .blk b1 28 (Col.cells x)]) [0, 1] rfl (by decide)).backL hpost
      clear hpost
      have hS : Ms X (fps []) w0 [.blk b1 28 (Col.cells x)] [] w := (hm.pick [2] rfl (by decide)).pickφ [] rfl
      refine wpList_nil (qn ⟨hS, ?_⟩)
      refine wph_one (i := 10) (by kernel_rfl) (wph_step rfl ?_)
      replace hm : Ms _ _ _ _ (AllInts ([]) ([] : List (List Int)) :: _) w := hm.addφ (allInts_nil)
      refine wpl_buildSlice (vs := []) rfl rfl ht hm rfl und_49 zo_25 sz1_25 (by decide) rfl rfl rfl ?_
      intro A7 a ht w hm
      have hS : Ms X (fps []) w0 [.blk b1 28 (Col.cells x)] [] w := (hm.pick [3] rfl (by decide)).pickφ [] rfl
      refine wpList_nil (qn ⟨hS, ?_⟩)
      refine wph_one (i := 12) (by kernel_rfl) (wph_step rfl ?_)
      replace hm : Ms _ _ _ _ (IntsAt A4 c5 m6 t3 :: _) w := hm.shutVec 1 rfl
      replace hm : Ms _ _ _ _ (IntsAt A2 0 0 ([] : List Int) :: _) w := hm.shutVec 1 rfl
      obtain ⟨t8, et8, H⟩ := bind_get H
      have hcall := spec_l02Go.calls k _ _ A4 c5 m6 A2 0 0 A7 0 0 ([]) t3 ([] : List Int) (w64 ((shlI .i64 1 (wu64 x.p)) - 1)) m ([] : List (List Int)) most _ ((hm.pick (own' := [.vec A7 0 25 1 0 ([])] ++ [.blk b1 28 (Col.cells x)]) [0, 1] rfl (by decide)).give (passed := [.vec A7 0 25 1 0 ([])]) (rest := [.blk b1 28 (Col.cells x)]) (φp := [IntsAt A4 c5 m6 t3, IntsAt A2 0 0 ([] : List Int), AllInts ([]) ([] : List (List Int))]) [1, 0, 2] rfl) et8
      refine wpl_call _ rfl rfl ht rfl rfl rfl rfl can_110 hcall ?_
      clear hcall
      rintro _ w ⟨A9, c10, m11, vs12, rfl, hpost⟩ a ht
      replace hm := (hm.pick (own' := [.vec A7 0 25 1 0 ([])] ++ [.blk b1 28 (Col.cells x)]) [0, 1] rfl (by decide)).back hpost
      clear hpost
      have hS : Ms X (fps []) w0 [.blk b1 28 (Col.cells x)] [] w := (hm.pick [1] rfl (by decide)).pickφ [] rfl
      refine wpList_nil (qn ⟨hS, ?_⟩)
      refine wph_take (i := 13) rfl (by kernel_rfl) (by kernel_rfl) (by kernel_rfl) (fun _ _ _ h => h) rfl ht hS (wanted_plain rfl) (fun w hm => ev_assign ht rfl rfl) ?_
      intro a ht
      refine wph_done (by kernel_rfl) ?_
      refine then_normal ?_
      refine wp_ret ?_
      have hres := ht.res (P := Try.prog) (w := w) (rs := [.tmp 8]) (vs := [.slice A9 m11 c10]) (.tmp rfl .nil)
      obtain rfl := Option.some.inj H
      exact leave ht rfl hres ⟨A9, c10, m11, vs12, rfl, ((hm.pick [0] rfl (by decide)).pickφ [0] rfl).post fun _ h => h⟩
    · refine wph_step rfl ?_
      replace hm : Ms _ _ _ _ (AllInts ([]) ([] : List (List Int)) :: _) w := hm.addφ (allInts_nil)
      refine wpl_buildSlice (vs := []) rfl rfl ht hm rfl und_49 zo_25 sz1_25 (by decide) rfl rfl rfl ?_
      intro A3 a ht w hm
      have hS : Ms X (fps []) w0 [.blk b1 28 (Col.cells x)] [] w := (hm.pick [2] rfl (by decide)).pickφ [] rfl
      refine wpList_nil (qn ⟨hS, ?_⟩)
      refine wph_one (i := 2) (by kernel_rfl) (wph_step rfl ?_)
      obtain ⟨t4, et4, H⟩ := bind_get H
      have hcall := spec_l02Rows.calls k _ _ x c _ ((fun (hq : Ms _ _ _ ([] ++ [.vec A3 0 25 1 0 ([]), .vec A2 0 2 1 0 (ints ([] : List Int)), .blk b1 28 (Col.cells x)]) _ _) => hq.lend (φp := []) (allRO_nil)) (hm.pick (own' := [] ++ [.vec A3 0 25 1 0 ([]), .vec A2 0 2 1 0 (ints ([] : List Int)), .blk b1 28 (Col.cells x)]) [0, 1, 2] rfl (by decide))) et4
      refine wpl_call _ rfl rfl ht rfl rfl rfl rfl can_59 hcall ?_
      clear hcall
      rintro _ w ⟨A5, c6, m7, rfl, hpost⟩ a ht
      replace hm := (hm.pick (own' := [] ++ [.vec A3 0 25 1 0 ([]), .vec A2 0 2 1 0 (ints ([] : List Int)), .blk b1 28 (Col.cells x)]) [0, 1, 2] rfl (by decide)).backL hpost
      clear hpost
      have hS : Ms X (fps []) w0 [.blk b1 28 (Col.cells x)] [] w := (hm.pick [3] rfl (by decide)).pickφ [] rfl
      refine wpList_nil (qn ⟨hS, ?_⟩)
      refine wph_one (i := 12) (by kernel_rfl) (wph_step rfl ?_)
      replace hm : Ms _ _ _ _ (IntsAt A5 c6 m7 t4 :: _) w := hm.shutVec 0 rfl
      replace hm : Ms _ _ _ _ (IntsAt A2 0 0 ([] : List Int) :: _) w := hm.shutVec 1 rfl
      obtain ⟨t8, et8, H⟩ := bind_get H
      have hcall := spec_l02Go.calls k _ _ A5 c6 m7 A2 0 0 A3 0 0 ([]) t4 ([] : List Int) (w64 ((shlI .i64 1 (wu64 x.p)) - 1)) m ([] : List (List Int)) most _ ((hm.pick (own' := [.vec A3 0 25 1 0 ([])] ++ [.blk b1 28 (Col.cells x)]) [0, 1] rfl (by decide)).give (passed := [.vec A3 0 25 1 0 ([])]) (rest := [.blk b1 28 (Col.cells x)]) (φp := [IntsAt A5 c6 m7 t4, IntsAt A2 0 0 ([] : List Int), AllInts ([]) ([] : List (List Int))]) [1, 0, 2] rfl) et8
      refine wpl_call _ rfl rfl ht rfl rfl rfl rfl can_110 hcall ?_
      clear hcall
      rintro _ w ⟨A9, c10, m11, vs12, rfl, hpost⟩ a ht
      replace hm := (hm.pick (own' := [.vec A3 0 25 1 0 ([])] ++ [.blk b1 28 (Col.cells x)]) [0, 1] rfl (by decide)).back hpost
      clear hpost
      have hS : Ms X (fps []) w0 [.blk b1 28 (Col.cells x)] [] w := (hm.pick [1] rfl (by decide)).pickφ [] rfl
      refine wpList_nil (qn ⟨hS, ?_⟩)
      refine wph_take (i := 13) rfl (by kernel_rfl) (by kernel_rfl) (by kernel_rfl) (fun _ _ _ h => h) rfl ht hS (wanted_plain rfl) (fun w hm => ev_assign ht rfl rfl) ?_
      intro a ht
      refine wph_done (by kernel_rfl) ?_
      refine then_normal ?_
      refine wp_ret ?_
      have hres := ht.res (P := Try.prog) (w := w) (rs := [.tmp 8]) (vs := [.slice A9 m11 c10]) (.tmp rfl .nil)
      obtain rfl := Option.some.inj H
      exact leave ht rfl hres ⟨A9, c10, m11, vs12, rfl, ((hm.pick [0] rfl (by decide)).pickφ [0] rfl).post fun _ h => h⟩
  · refine wph_step rfl ?_
    replace hm : Ms _ _ _ _ (AllInts ([]) ([] : List (List Int)) :: _) w := hm.addφ (allInts_nil)
    refine wpl_buildSlice (vs := []) rfl rfl ht hm rfl und_49 zo_25 sz1_25 (by decide) rfl rfl rfl ?_
    intro A2 a ht w hm
    have hS : Ms X (fps []) w0 [.blk b1 28 (Col.cells x)] [] w := (hm.pick [1] rfl (by decide)).pickφ [] rfl
    refine wpList_nil (qn ⟨hS, ?_⟩)
    refine wph_two (i := 2) (j := 3) (by kernel_rfl) ?_ ?_ 
    · refine wph_step rfl ?_
      obtain ⟨t3, et3, H⟩ := bind_get H
      have hcall := spec_l02Rows.calls k _ _ x c _ ((fun (hq : Ms _ _ _ ([] ++ [.vec A2 0 25 1 0 ([]), .blk b1 28 (Col.cells x)]) _ _) => hq.lend (φp := []) (allRO_nil)) (hm.pick (own' := [] ++ [.vec A2 0 25 1 0 ([]), .blk b1 28 (Col.cells x)]) [0, 1] rfl (by decide))) et3
      refine wpl_call _ rfl rfl ht rfl rfl rfl rfl can_59 hcall ?_
      clear hcall
      rintro _ w ⟨A4, c5, m6, rfl, hpost⟩ a ht
      replace hm := (hm.pick (own' := [] ++ [.vec A2 0 25 1 0 ([]), .blk b1 28 (Col.cells x)]) [0, 1] rfl (by decide)).backL hpost
      clear hpost
      have hS : Ms X (fps []) w0 [.blk b1 28 (Col.cells x)] [] w := (hm.pick [2] rfl (by decide)).pickφ [] rfl
      refine wpList_nil (qn ⟨hS, ?_⟩)
      refine wph_one (i := 3) (by kernel_rfl) (wph_step rfl ?_)
      refine wpl_build_ints (l := ([] : List Int)) rfl rfl ht hm rfl und_25 zo_2 sz1_2 (by decide) rfl rfl rfl ?_
      intro A7 a ht w hm
      have hS : Ms X (fps []) w0 [.blk b1 28 (Col.cells x)] [] w := (hm.pick [3] rfl (by decide)).pickφ [] rfl
      refine wpList_nil (qn ⟨hS, ?_⟩)
      refine wph_one (i := 12) (by kernel_rfl) (wph_step rfl ?_)
      replace hm : Ms _ _ _ _ (IntsAt A4 c5 m6 t3 :: _) w := hm.shutVec 1 rfl
      replace hm : Ms _ _ _ _ (IntsAt A7 0 0 ([] : List Int) :: _) w := hm.shutVec 0 rfl
      obtain ⟨t8, et8, H⟩ := bind_get H
      have hcall := spec_l02Go.calls k _ _ A4 c5 m6 A7 0 0 A2 0 0 ([]) t3 ([] : List Int) (w64 ((shlI .i64 1 (wu64 x.p)) - 1)) m ([] : List (List Int)) most _ ((hm.pick (own' := [.vec A2 0 25 1 0 ([])] ++ [.blk b1 28 (Col.cells x)]) [0, 1] rfl (by decide)).give (passed := [.vec A2 0 25 1 0 ([])]) (rest := [.blk b1 28 (Col.cells x)]) (φp := [IntsAt A4 c5 m6 t3, IntsAt A7 0 0 ([] : List Int), AllInts ([]) ([] : List (List Int))]) [1, 0, 2] rfl) et8
      refine wpl_call _ rfl rfl ht rfl rfl rfl rfl can_110 hcall ?_
      clear hcall
      rintro _ w ⟨A9, c10, m11, vs12, rfl, hpost⟩ a ht
      replace hm := (hm.pick (own' := [.vec A2 0 25 1 0 ([])] ++ [.blk b1 28 (Col.cells x)]) [0, 1] rfl (by decide)).back hpost
      clear hpost
      have hS : Ms X (fps []) w0 [.blk b1 28 (Col.cells x)] [] w := (hm.pick [1] rfl (by decide)).pickφ [] rfl
      refine wpList_nil (qn ⟨hS, ?_⟩)
      refine wph_take (i := 13) rfl (by kernel_rfl) (by kernel_rfl) (by kernel_rfl) (fun _ _ _ h => h) rfl ht hS (wanted_plain rfl) (fun w hm => ev_assign ht rfl rfl) ?_
      intro a ht
      refine wph_done (by kernel_rfl) ?_
      refine then_normal ?_
      refine wp_ret ?_
      have hres := ht.res (P := Try.prog) (w := w) (rs := [.tmp 8]) (vs := [.slice A9 m11 c10]) (.tmp rfl .nil)
      obtain rfl := Option.some.inj H
      exact leave ht rfl hres ⟨A9, c10, m11, vs12, rfl, ((hm.pick [0] rfl (by decide)).pickφ [0] rfl).post fun _ h => h⟩
    · refine wph_step rfl ?_
      refine wpl_build_ints (l := ([] : List Int)) rfl rfl ht hm rfl und_25 zo_2 sz1_2 (by decide) rfl rfl rfl ?_
      intro A3 a ht w hm
      have hS : Ms X (fps []) w0 [.blk b1 28 (Col.cells x)] [] w := (hm.pick [2] rfl (by decide)).pickφ [] rfl
      refine wpList_nil (qn ⟨hS, ?_⟩)
      refine wph_one (i := 2) (by kernel_rfl) (wph_step rfl ?_)
      obtain ⟨t4, et4, H⟩ := bind_get H
      have hcall := spec_l02Rows.calls k _ _ x c _ ((fun (hq : Ms _ _ _ ([] ++ [.vec A3 0 2 1 0 (ints ([] : List Int)), .vec A2 0 25 1 0 ([]), .blk b1 28 (Col.cells x)]) _ _) => hq.lend (φp := []) (allRO_nil)) (hm.pick (own' := [] ++ [.vec A3 0 2 1 0 (ints ([] : List Int)), .vec A2 0 25 1 0 ([]), .blk b1 28 (Col.cells x)]) [0, 1, 2] rfl (by decide))) et4
      refine wpl_call _ rfl rfl ht rfl rfl rfl rfl can_59 hcall ?_
      clear hcall
      rintro _ w ⟨A5, c6, m7, rfl, hpost⟩ a ht
      replace hm := (hm.pick (own' := [] ++ [.vec A3 0 2 1 0 (ints ([] : List Int)), .vec A2 0 25 1 0 ([]), .blk b1 28 (Col.cells x)]) [0, 1, 2] rfl (by decide)).backL hpost
      clear hpost
      have hS : Ms X (fps []) w0 [.blk b1 28 (Col.cells x)] [] w := (hm.pick [3] rfl (by decide)).pickφ [] rfl
      refine wpList_nil (qn ⟨hS, ?_⟩)
      refine wph_one (i := 12) (by kernel_rfl) (wph_step rfl ?_)
      replace hm : Ms _ _ _ _ (IntsAt A5 c6 m7 t4 :: _) w := hm.shutVec 0 rfl
      replace hm : Ms _ _ _ _ (IntsAt A3 0 0 ([] : List Int) :: _) w := hm.shutVec 0 rfl
      obtain ⟨t8, et8, H⟩ := bind_get H
      have hcall := spec_l02Go.calls k _ _ A5 c6 m7 A3 0 0 A2 0 0 ([]) t4 ([] : List Int) (w64 ((shlI .i64 1 (wu64 x.p)) - 1)) m ([] : List (List Int)) most _ ((hm.pick (own' := [.vec A2 0 25 1 0 ([])] ++ [.blk b1 28 (Col.cells x)]) [0, 1] rfl (by decide)).give (passed := [.vec A2 0 25 1 0 ([])]) (rest := [.blk b1 28 (Col.cells x)]) (φp := [IntsAt A5 c6 m7 t4, IntsAt A3 0 0 ([] : List Int), AllInts ([]) ([] : List (List Int))]) [1, 0, 2] rfl) et8
      refine wpl_call _ rfl rfl ht rfl rfl rfl rfl can_110 hcall ?_
      clear hcall
      rintro _ w ⟨A9, c10, m11, vs12, rfl, hpost⟩ a ht
      replace hm := (hm.pick (own' := [.vec A2 0 25 1 0 ([])] ++ [.blk b1 28 (Col.cells x)]) [0, 1] rfl (by decide)).back hpost
      clear hpost
      have hS : Ms X (fps []) w0 [.blk b1 28 (Col.cells x)] [] w := (hm.pick [1] rfl (by decide)).pickφ [] rfl
      refine wpList_nil (qn ⟨hS, ?_⟩)
      refine wph_take (i := 13) rfl (by kernel_rfl) (by kernel_rfl) (by kernel_rfl) (fun _ _ _ h => h) rfl ht hS (wanted_plain rfl) (fun w hm => ev_assign ht rfl rfl) ?_
      intro a ht
      refine wph_done (by kernel_rfl) ?_
      refine then_normal ?_
      refine wp_ret ?_
      have hres := ht.res (P := Try.prog) (w := w) (rs := [.tmp 8]) (vs := [.slice A9 m11 c10]) (.tmp rfl .nil)
      obtain rfl := Option.some.inj H
      exact leave ht rfl hres ⟨A9, c10, m11, vs12, rfl, ((hm.pick [0] rfl (by decide)).pickφ [0] rfl).post fun _ h => h⟩

end Go.Proofs.Ytdpamdedomkomaa.G
