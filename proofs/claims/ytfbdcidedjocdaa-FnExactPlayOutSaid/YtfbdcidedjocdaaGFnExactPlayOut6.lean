/- What each Go function computes, as a Lean function, and the proof that it does: written by a program of this session (wip/gen), part 6. -/
import Derived.Test.YtfbdcidedjocdaaGFnExactPlayOut5
namespace Go.Proofs.Ytfbdcidedjocdaa.G
open Go Go.RowKit Go.Proofs.Ytfbdcidedjocdaa.K
set_option linter.unusedVariables false
set_option linter.unusedSimpArgs false

/-! ### impl_position_triangles: function 62 ((loop.example/g01362/impl.position).triangles) -/
mutual
def impl_position_triangles.l0 : Nat → Int → List Int → Int → List (List Int) → Int → Option (List (List Int))
  | 0, _, _, _, _, _ => none
  | q4 + 1, p, p2, who, ls0_4, xs0_6 => if xs0_6 < p then (impl_position_triangles.l1 q4 p p2 who xs0_6 ls0_4 0) else (some ls0_4)
def impl_position_triangles.l1 : Nat → Int → List Int → Int → Int → List (List Int) → Int → Option (List (List Int))
  | 0, _, _, _, _, _, _ => none
  | q6 + 1, p, p2, who, xs0_6, ls1_4, xs1_6 => if xs1_6 < xs0_6 then (impl_position_triangles.l2 q6 p p2 who xs0_6 xs1_6 ls1_4 0) else (impl_position_triangles.l0 q6 p p2 who ls1_4 (w64 (xs0_6 + 1)))
def impl_position_triangles.l2 : Nat → Int → List Int → Int → Int → Int → List (List Int) → Int → Option (List (List Int))
  | 0, _, _, _, _, _, _, _ => none
  | q8 + 1, p, p2, who, xs0_6, xs1_6, ls2_4, xs2_6 => if xs2_6 < xs1_6 then ((impl_number.f xs2_6 xs1_6).bind fun t10 => (impl_number.f xs2_6 xs0_6).bind fun t11 => (impl_number.f xs1_6 xs0_6).bind fun t12 => (slices_ContainsFunc_int64_int64__position_triangles_1.f q8 ([t10, t11, t12]) p p2 who).bind fun t14 => if t14 = true then (impl_position_triangles.l2 q8 p p2 who xs0_6 xs1_6 ls2_4 (w64 (xs2_6 + 1))) else ((concatR ls2_4 ([[t10, t11, t12]])).bind fun l20 => impl_position_triangles.l2 q8 p p2 who xs0_6 xs1_6 l20 (w64 (xs2_6 + 1)))) else (impl_position_triangles.l1 q8 p p2 who xs0_6 ls2_4 (w64 (xs1_6 + 1)))
end
def impl_position_triangles.f (k : Nat) (p : Int) (p2 : List Int) (who : Int) : Option (List (List Int)) := impl_position_triangles.l0 k p p2 who ([] : List (List Int)) 0
set_option maxRecDepth 100000 in
set_option maxHeartbeats 1000000 in
theorem impl_position_triangles.calls (k : Nat) (X : List Nat) (w0 : World) (A : Option Addr) (c : Nat) (m : Nat) (p : Int) (p2 : List Int) (who : Int) (r : List (List Int))
    (hp : Pre X w0 [] [IntsAt A c m p2]) (H : impl_position_triangles.f k p p2 who = some r) :
    Calls Try.prog 62 [.agg [.int .i64 p, .slice A m c].toArray, .int .i64 who].toArray w0 (Ret fun v w => ∃ (A_0 : Option Addr) (c_0 : Nat) (n_0 : Nat) (vs_0 : List Value), v = .slice A_0 n_0 c_0 ∧ Post X (fps []) w0 [.vec A_0 c_0 22 1 n_0 vs_0] [AllInts vs_0 r] w) := by
  unfold impl_position_triangles.f at H
  refine enterM (n := 46) hp Try.func62 rfl rfl (Nat.le_of_ble_eq_true rfl) fun a w ht hm => ?_
  refine wp_seq ?_
  refine wpr ?_
  refine wpl_box rfl rfl ht hm rfl rfl rfl ?_
  intro b1 a ht w hm
  refine wpl_box rfl rfl ht hm rfl rfl rfl ?_
  intro b2 a ht w hm
  refine wpl rfl rfl ht (ev_assign ht rfl rfl) ?_
  intro a ht
  refine wpList_nil ?_
  refine then_normal ?_
  refine wp_seq ?_
  refine wpr ?_
  replace hm : Ms _ _ _ _ (AllInts ([]) ([] : List (List Int)) :: _) w := hm.addφ (allInts_nil)
  refine wpl_buildSlice (vs := []) rfl rfl ht hm rfl und_52 zo_22 sz1_22 (by decide) rfl rfl rfl ?_
  intro A3 a ht w hm
  refine wpl rfl rfl ht (ev_assign ht rfl rfl) ?_
  intro a ht
  refine wpList_nil ?_
  refine then_normal ?_
  refine wp_seq ?_
  refine wp_seq ?_
  refine wpr ?_
  refine wpl rfl rfl ht (ev_fieldAddr ht rfl rfl fo_35_0) ?_
  intro a ht
  refine wpl rfl rfl ht (ev_load ht rfl rfl sc_2 (hm.blk_cell 2 rfl rfl)) ?_
  intro a ht
  refine wpl rfl rfl ht (ev_move ht rfl rfl) ?_
  intro a ht
  refine wpList_nil ?_
  refine then_normal ?_
  refine wp_block ?_
  refine wpLoop (fun q a w => ∃ (ls0_4 : List (List Int)) (xs0_6 : Int) (As0_1 : Option Addr) (cs0_2 : Nat) (ms0_3 : Nat) (vss0_5 : List Value), impl_position_triangles.l0 q p p2 who ls0_4 xs0_6 = some r ∧ q ≤ k ∧ Tm 46 [(2, .pointer (some ⟨b1, 0, none⟩)), (3, .pointer (some ⟨b2, 0, none⟩)), (4, .slice none 0 0), (5, .slice As0_1 ms0_3 cs0_2), (12, .int .i64 p), (13, .int .i64 xs0_6)] a ∧ Ms X (fps []) w0 [.vec As0_1 cs0_2 22 1 ms0_3 vss0_5, .blk b2 2 [.int .i64 who], .blk b1 35 [.int .i64 p, .slice A m c]] [AllInts vss0_5 ls0_4, IntsAt A c m p2] w) (k0 := k) ⟨([] : List (List Int)), 0, A3, 0, 0, ([]), H, Nat.le_refl _, ht.sub ⟨rfl, rfl, rfl, rfl, rfl, rfl, trivial⟩, (hm.pick [0, 1, 2] rfl (by decide)).pickφ [0, 1] rfl⟩ ?_
  clear H ht hm
  intro q4 a w hJ
  obtain ⟨ls0_4, xs0_6, As0_1, cs0_2, ms0_3, vss0_5, H, hqq4, ht, hm⟩ := hJ
  cases q4 with
  | zero => cases H
  | succ q4 =>
  rw [impl_position_triangles.l0] at H
  refine wp_seq ?_
  refine wpr ?_
  refine wpl rfl rfl ht (ev_cmp ht rfl rfl rfl rfl) ?_
  intro a ht
  refine wpList_nil ?_
  refine then_normal ?_
  refine wp_seq ?_
  by_cases h5 : xs0_6 < p
  · replace H := ite_yes h5 H
    refine wpc_yes ht rfl (decide_eq_true h5) ?_
    refine wp_skip ?_
    refine then_normal ?_
    refine wp_seq ?_
    refine wp_block ?_
    refine wp_seq ?_
    refine wpr ?_
    refine wpl rfl rfl ht (ev_move ht rfl rfl) ?_
    intro a ht
    refine wpl rfl rfl ht (ev_assign ht rfl rfl) ?_
    intro a ht
    refine wpList_nil ?_
    refine then_normal ?_
    refine wp_seq ?_
    refine wpr ?_
    refine wpl rfl rfl ht (ev_move ht rfl rfl) ?_
    intro a ht
    refine wpl rfl rfl ht (ev_move ht rfl rfl) ?_
    intro a ht
    refine wpList_nil ?_
    refine then_normal ?_
    refine wp_block ?_
    refine wpLoop (fun q a w => ∃ (ls1_4 : List (List Int)) (xs1_6 : Int) (As1_1 : Option Addr) (cs1_2 : Nat) (ms1_3 : Nat) (vss1_5 : List Value), impl_position_triangles.l1 q p p2 who xs0_6 ls1_4 xs1_6 = some r ∧ q ≤ q4 ∧ Tm 46 [(2, .pointer (some ⟨b1, 0, none⟩)), (3, .pointer (some ⟨b2, 0, none⟩)), (4, .slice none 0 0), (5, .slice As1_1 ms1_3 cs1_2), (6, .int .i64 xs0_6), (12, .int .i64 p), (13, .int .i64 xs0_6), (14, .bool (decide (xs0_6 < p))), (15, .int .i64 xs0_6), (16, .int .i64 xs0_6), (17, .int .i64 xs1_6)] a ∧ Ms X (fps []) w0 [.vec As1_1 cs1_2 22 1 ms1_3 vss1_5, .blk b2 2 [.int .i64 who], .blk b1 35 [.int .i64 p, .slice A m c]] [AllInts vss1_5 ls1_4, IntsAt A c m p2] w) (k0 := q4) ⟨ls0_4, 0, As0_1, cs0_2, ms0_3, vss0_5, H, Nat.le_refl _, ht.sub ⟨rfl, rfl, rfl, rfl, rfl, rfl, rfl, rfl, rfl, rfl, rfl, trivial⟩, (hm.pick [0, 1, 2] rfl (by decide)).pickφ [0, 1] rfl⟩ ?_
    clear H ht hm
    intro q6 a w hJ
    obtain ⟨ls1_4, xs1_6, As1_1, cs1_2, ms1_3, vss1_5, H, hqq6, ht, hm⟩ := hJ
    cases q6 with
    | zero => cases H
    | succ q6 =>
    rw [impl_position_triangles.l1] at H
    refine wp_seq ?_
    refine wpr ?_
    refine wpl rfl rfl ht (ev_cmp ht rfl rfl rfl rfl) ?_
    intro a ht
    refine wpList_nil ?_
    refine then_normal ?_
    refine wp_seq ?_
    by_cases h7 : xs1_6 < xs0_6
    · replace H := ite_yes h7 H
      refine wpc_yes ht rfl (decide_eq_true h7) ?_
      refine wp_skip ?_
      refine then_normal ?_
      refine wp_seq ?_
      refine wp_block ?_
      refine wp_seq ?_
      refine wpr ?_
      refine wpl rfl rfl ht (ev_move ht rfl rfl) ?_
      intro a ht
      refine wpl rfl rfl ht (ev_assign ht rfl rfl) ?_
      intro a ht
      refine wpList_nil ?_
      refine then_normal ?_
      refine wp_seq ?_
      refine wpr ?_
      refine wpl rfl rfl ht (ev_move ht rfl rfl) ?_
      intro a ht
      refine wpl rfl rfl ht (ev_move ht rfl rfl) ?_
      intro a ht
      refine wpList_nil ?_
      refine then_normal ?_
      refine wp_block ?_
      refine wpLoop (fun q a w => ∃ (ls2_4 : List (List Int)) (xs2_6 : Int) (As2_1 : Option Addr) (cs2_2 : Nat) (ms2_3 : Nat) (vss2_5 : List Value), impl_position_triangles.l2 q p p2 who xs0_6 xs1_6 ls2_4 xs2_6 = some r ∧ q ≤ q6 ∧ Tm 46 [(2, .pointer (some ⟨b1, 0, none⟩)), (3, .pointer (some ⟨b2, 0, none⟩)), (4, .slice none 0 0), (5, .slice As2_1 ms2_3 cs2_2), (6, .int .i64 xs0_6), (7, .int .i64 xs1_6), (12, .int .i64 p), (13, .int .i64 xs0_6), (14, .bool (decide (xs0_6 < p))), (15, .int .i64 xs0_6), (16, .int .i64 xs0_6), (17, .int .i64 xs1_6), (18, .bool (decide (xs1_6 < xs0_6))), (19, .int .i64 xs1_6), (20, .int .i64 xs1_6), (21, .int .i64 xs2_6)] a ∧ Ms X (fps []) w0 [.vec As2_1 cs2_2 22 1 ms2_3 vss2_5, .blk b2 2 [.int .i64 who], .blk b1 35 [.int .i64 p, .slice A m c]] [AllInts vss2_5 ls2_4, IntsAt A c m p2] w) (k0 := q6) ⟨ls1_4, 0, As1_1, cs1_2, ms1_3, vss1_5, H, Nat.le_refl _, ht.sub ⟨rfl, rfl, rfl, rfl, rfl, rfl, rfl, rfl, rfl, rfl, rfl, rfl, rfl, rfl, rfl, rfl, trivial⟩, (hm.pick [0, 1, 2] rfl (by decide)).pickφ [0, 1] rfl⟩ ?_
      clear H ht hm
      intro q8 a w hJ
      obtain ⟨ls2_4, xs2_6, As2_1, cs2_2, ms2_3, vss2_5, H, hqq8, ht, hm⟩ := hJ
      cases q8 with
      | zero => cases H
      | succ q8 =>
      rw [impl_position_triangles.l2] at H
      refine wp_seq ?_
      refine wpr ?_
      refine wpl rfl rfl ht (ev_cmp ht rfl rfl rfl rfl) ?_
      intro a ht
      refine wpList_nil ?_
      refine then_normal ?_
      refine wp_seq ?_
      by_cases h9 : xs2_6 < xs1_6
      · replace H := ite_yes h9 H
        refine wpc_yes ht rfl (decide_eq_true h9) ?_
        refine wp_skip ?_
        refine then_normal ?_
        refine wp_seq ?_
        refine wp_block ?_
        refine wp_seq ?_
        refine wpr ?_
        refine wpl rfl rfl ht (ev_move ht rfl rfl) ?_
        intro a ht
        refine wpl rfl rfl ht (ev_assign ht rfl rfl) ?_
        intro a ht
        refine wpList_nil ?_
        refine then_normal ?_
        refine wp_seq ?_
        refine wpr ?_
        refine wpl rfl rfl ht (ev_move ht rfl rfl) ?_
        intro a ht
        refine wpl rfl rfl ht (ev_move ht rfl rfl) ?_
        intro a ht
        obtain ⟨t10, et10, H⟩ := bind_get H
        have hcall := impl_number.calls _ _ xs2_6 xs1_6 _ ((fun (hq : Ms _ _ _ ([] ++ [.vec As2_1 cs2_2 22 1 ms2_3 vss2_5, .blk b2 2 [.int .i64 who], .blk b1 35 [.int .i64 p, .slice A m c]]) _ _) => hq.lend (φp := []) (allRO_nil)) (hm.pick (own' := [] ++ [.vec As2_1 cs2_2 22 1 ms2_3 vss2_5, .blk b2 2 [.int .i64 who], .blk b1 35 [.int .i64 p, .slice A m c]]) [0, 1, 2] rfl (by decide))) et10
        refine wpl_call _ rfl rfl ht rfl rfl rfl rfl can_80 hcall ?_
        clear hcall
        rintro _ w ⟨rfl, hpost⟩ a ht
        replace hm := (hm.pick (own' := [] ++ [.vec As2_1 cs2_2 22 1 ms2_3 vss2_5, .blk b2 2 [.int .i64 who], .blk b1 35 [.int .i64 p, .slice A m c]]) [0, 1, 2] rfl (by decide)).backL hpost
        clear hpost
        refine wpl rfl rfl ht (ev_move ht rfl rfl) ?_
        intro a ht
        refine wpl rfl rfl ht (ev_move ht rfl rfl) ?_
        intro a ht
        obtain ⟨t11, et11, H⟩ := bind_get H
        have hcall := impl_number.calls _ _ xs2_6 xs0_6 _ ((fun (hq : Ms _ _ _ ([] ++ [.vec As2_1 cs2_2 22 1 ms2_3 vss2_5, .blk b2 2 [.int .i64 who], .blk b1 35 [.int .i64 p, .slice A m c]]) _ _) => hq.lend (φp := []) (allRO_nil)) (hm.pick (own' := [] ++ [.vec As2_1 cs2_2 22 1 ms2_3 vss2_5, .blk b2 2 [.int .i64 who], .blk b1 35 [.int .i64 p, .slice A m c]]) [0, 1, 2] rfl (by decide))) et11
        refine wpl_call _ rfl rfl ht rfl rfl rfl rfl can_80 hcall ?_
        clear hcall
        rintro _ w ⟨rfl, hpost⟩ a ht
        replace hm := (hm.pick (own' := [] ++ [.vec As2_1 cs2_2 22 1 ms2_3 vss2_5, .blk b2 2 [.int .i64 who], .blk b1 35 [.int .i64 p, .slice A m c]]) [0, 1, 2] rfl (by decide)).backL hpost
        clear hpost
        refine wpl rfl rfl ht (ev_move ht rfl rfl) ?_
        intro a ht
        refine wpl rfl rfl ht (ev_move ht rfl rfl) ?_
        intro a ht
        obtain ⟨t12, et12, H⟩ := bind_get H
        have hcall := impl_number.calls _ _ xs1_6 xs0_6 _ ((fun (hq : Ms _ _ _ ([] ++ [.vec As2_1 cs2_2 22 1 ms2_3 vss2_5, .blk b2 2 [.int .i64 who], .blk b1 35 [.int .i64 p, .slice A m c]]) _ _) => hq.lend (φp := []) (allRO_nil)) (hm.pick (own' := [] ++ [.vec As2_1 cs2_2 22 1 ms2_3 vss2_5, .blk b2 2 [.int .i64 who], .blk b1 35 [.int .i64 p, .slice A m c]]) [0, 1, 2] rfl (by decide))) et12
        refine wpl_call _ rfl rfl ht rfl rfl rfl rfl can_80 hcall ?_
        clear hcall
        rintro _ w ⟨rfl, hpost⟩ a ht
        replace hm := (hm.pick (own' := [] ++ [.vec As2_1 cs2_2 22 1 ms2_3 vss2_5, .blk b2 2 [.int .i64 who], .blk b1 35 [.int .i64 p, .slice A m c]]) [0, 1, 2] rfl (by decide)).backL hpost
        clear hpost
        refine wpl_build_ints (l := [t10, t11, t12]) rfl rfl ht hm rfl und_22 zo_2 sz1_2 (by decide) rfl rfl rfl ?_
        intro A13 a ht w hm
        refine wpl rfl rfl ht (ev_assign ht rfl rfl) ?_
        intro a ht
        refine wpList_nil ?_
        refine then_normal ?_
        refine wp_seq ?_
        refine wpr ?_
        refine wpl rfl rfl ht (ev_move ht rfl rfl) ?_
        intro a ht
        refine wpl rfl rfl ht (ev_makeFunc ht rfl rfl rfl) ?_
        intro a ht
        obtain ⟨t14, et14, H⟩ := bind_get H
        have hcall := slices_ContainsFunc_int64_int64__position_triangles_1.calls q8 _ _ A13 3 3 b1 A c m b2 ([t10, t11, t12]) p p2 who _ ((fun (hq : Ms _ _ _ ([.blk b1 35 [.int .i64 p, .slice A m c], .blk b2 2 [.int .i64 who]] ++ [.vec A13 3 2 1 3 (ints ([t10, t11, t12])), .vec As2_1 cs2_2 22 1 ms2_3 vss2_5]) _ _) => hq.lend (φp := [IntsAt A13 3 3 ([t10, t11, t12]), IntsAt A c m p2]) (allRO_cons (hq.lendVec 0 rfl) (allRO_cons (hq.lendFact 1 rfl) (allRO_nil)))) (hm.pick (own' := [.blk b1 35 [.int .i64 p, .slice A m c], .blk b2 2 [.int .i64 who]] ++ [.vec A13 3 2 1 3 (ints ([t10, t11, t12])), .vec As2_1 cs2_2 22 1 ms2_3 vss2_5]) [3, 2, 0, 1] rfl (by decide))) et14
        refine wpl_call _ rfl rfl ht rfl rfl rfl rfl can_81 hcall ?_
        clear hcall
        rintro _ w ⟨rfl, hpost⟩ a ht
        replace hm := (hm.pick (own' := [.blk b1 35 [.int .i64 p, .slice A m c], .blk b2 2 [.int .i64 who]] ++ [.vec A13 3 2 1 3 (ints ([t10, t11, t12])), .vec As2_1 cs2_2 22 1 ms2_3 vss2_5]) [3, 2, 0, 1] rfl (by decide)).backL hpost
        clear hpost
        refine wpl rfl rfl ht (ev_not ht rfl rfl) ?_
        intro a ht
        refine wpList_nil ?_
        refine then_normal ?_
        by_cases h15 : t14 = true
        · replace H := ite_yes h15 H
          refine wpc_no ht rfl (not_t h15) ?_
          refine wp_skip ?_
          refine blk_normal ?_
          refine then_normal ?_
          refine wpr ?_
          refine wpl rfl rfl ht (ev_arith ht rfl rfl rfl rfl) ?_
          intro a ht
          refine wpl rfl rfl ht (ev_move ht rfl rfl) ?_
          intro a ht
          refine wpList_nil ?_
          exact then_normal ⟨q8, by omega, ls2_4, (w64 (xs2_6 + 1)), As2_1, cs2_2, ms2_3, vss2_5, H, by omega, ht.sub ⟨rfl, rfl, rfl, rfl, rfl, rfl, rfl, rfl, rfl, rfl, rfl, rfl, rfl, rfl, rfl, rfl, trivial⟩, (hm.pick [3, 1, 0] rfl (by decide)).pickφ [0, 1] rfl⟩
        · replace H := ite_no h15 H
          refine wpc_yes ht rfl (not_f (Bool.eq_false_iff.mpr h15)) ?_
          refine wpr ?_
          refine wpl rfl rfl ht (ev_move ht rfl rfl) ?_
          intro a ht
          refine wpl rfl rfl ht (ev_move ht rfl rfl) ?_
          intro a ht
          replace hm : Ms _ _ _ _ (IntsAt A13 3 3 ([t10, t11, t12]) :: _) w := hm.shutVec 2 rfl
          replace hm : Ms _ _ _ _ (AllInts ([.slice A13 3 3]) ([[t10, t11, t12]]) :: _) w := hm.addφ (allInts_cons (hm.ro 0 rfl) (allInts_nil))
          refine wpl_buildSlice (vs := [.slice A13 3 3]) rfl rfl ht hm rfl und_52 zo_22 sz1_22 (by decide) rfl rfl rfl ?_
          intro A16 a ht w hm
          obtain ⟨l20, el20, H⟩ := bind_get H
          replace hm : Ms _ _ _ _ (AllInts (vss2_5 ++ ([.slice A13 3 3])) l20 :: _) w := hm.addφ (allInts_append el20 (hm.ro 2 rfl) (hm.ro 0 rfl))
          refine wpl_concat_rows (r := l20) 3 0 3 1 rfl rfl ht hm rfl ap_52 rfl rfl rfl rfl rfl rfl el20 ?_
          intro A17 c18 m19 a ht w hm
          refine wpl rfl rfl ht (ev_assign ht rfl rfl) ?_
          intro a ht
          refine wpList_nil ?_
          refine blk_normal ?_
          refine then_normal ?_
          refine wpr ?_
          refine wpl rfl rfl ht (ev_arith ht rfl rfl rfl rfl) ?_
          intro a ht
          refine wpl rfl rfl ht (ev_move ht rfl rfl) ?_
          intro a ht
          refine wpList_nil ?_
          exact then_normal ⟨q8, by omega, l20, (w64 (xs2_6 + 1)), A17, c18, m19, (vss2_5 ++ ([.slice A13 3 3])), H, by omega, ht.sub ⟨rfl, rfl, rfl, rfl, rfl, rfl, rfl, rfl, rfl, rfl, rfl, rfl, rfl, rfl, rfl, rfl, trivial⟩, (hm.pick [3, 2, 1] rfl (by decide)).pickφ [0, 4] rfl⟩
      · replace H := ite_no h9 H
        refine wpc_no ht rfl (decide_eq_false h9) ?_
        refine wp_exit ?_
        refine then_exit ?_
        refine then_exit ?_
        refine blk_hit ?_
        refine blk_normal ?_
        refine then_normal ?_
        refine wpr ?_
        refine wpl rfl rfl ht (ev_arith ht rfl rfl rfl rfl) ?_
        intro a ht
        refine wpl rfl rfl ht (ev_move ht rfl rfl) ?_
        intro a ht
        refine wpList_nil ?_
        exact then_normal ⟨q8, by omega, ls2_4, (w64 (xs1_6 + 1)), As2_1, cs2_2, ms2_3, vss2_5, H, by omega, ht.sub ⟨rfl, rfl, rfl, rfl, rfl, rfl, rfl, rfl, rfl, rfl, rfl, trivial⟩, (hm.pick [0, 1, 2] rfl (by decide)).pickφ [0, 1] rfl⟩
    · replace H := ite_no h7 H
      refine wpc_no ht rfl (decide_eq_false h7) ?_
      refine wp_exit ?_
      refine then_exit ?_
      refine then_exit ?_
      refine blk_hit ?_
      refine blk_normal ?_
      refine then_normal ?_
      refine wpr ?_
      refine wpl rfl rfl ht (ev_arith ht rfl rfl rfl rfl) ?_
      intro a ht
      refine wpl rfl rfl ht (ev_move ht rfl rfl) ?_
      intro a ht
      refine wpList_nil ?_
      exact then_normal ⟨q6, by omega, ls1_4, (w64 (xs0_6 + 1)), As1_1, cs1_2, ms1_3, vss1_5, H, by omega, ht.sub ⟨rfl, rfl, rfl, rfl, rfl, rfl, trivial⟩, (hm.pick [0, 1, 2] rfl (by decide)).pickφ [0, 1] rfl⟩
  · replace H := ite_no h5 H
    refine wpc_no ht rfl (decide_eq_false h5) ?_
    refine wp_exit ?_
    refine then_exit ?_
    refine then_exit ?_
    refine blk_hit ?_
    refine then_normal ?_
    refine wp_seq ?_
    refine wpr ?_
    refine wpl rfl rfl ht (ev_move ht rfl rfl) ?_
    intro a ht
    refine wpl rfl rfl ht (ev_assign ht rfl rfl) ?_
    intro a ht
    refine wpList_nil ?_
    refine then_normal ?_
    refine wp_ret ?_
    have hres := ht.res (P := Try.prog) (w := w) (rs := [.tmp 4]) (vs := [.slice As0_1 ms0_3 cs0_2]) (.tmp rfl .nil)
    obtain rfl := Option.some.inj H
    exact leave ht rfl hres ⟨As0_1, cs0_2, ms0_3, vss0_5, rfl, ((hm.pick [0] rfl (by decide)).pickφ [0] rfl).post fun _ h => h⟩

/-! ### slices_Index_int64_int64: function 90 (slices.Index[[]int64,int64]) -/
def slices_Index_int64_int64.l0 : Nat → List Int → Int → Int → Option (Int)
  | 0, _, _, _ => none
  | q1 + 1, s, v, xs0_1 => if xs0_1 < (s.length : Int) then ((getI s xs0_1).bind fun t3 => if v = t3 then (some xs0_1) else (slices_Index_int64_int64.l0 q1 s v (w64 (xs0_1 + 1)))) else (some (-1))
def slices_Index_int64_int64.f (k : Nat) (s : List Int) (v : Int) : Option (Int) := slices_Index_int64_int64.l0 k s v 0
set_option maxRecDepth 100000 in
set_option maxHeartbeats 1000000 in
theorem slices_Index_int64_int64.calls (k : Nat) (X : List Nat) (w0 : World) (A : Option Addr) (c : Nat) (m : Nat) (s : List Int) (v : Int) (r : Int)
    (hp : Pre X w0 [] [IntsAt A c m s]) (H : slices_Index_int64_int64.f k s v = some r) :
    Calls Try.prog 90 [.slice A m c, .int .i64 v].toArray w0 (Ret fun v w => v = .int .i64 r ∧ Post X (fps []) w0 [] [] w) := by
  unfold slices_Index_int64_int64.f at H
  refine enterM (n := 19) hp Try.func90 rfl rfl (Nat.le_of_ble_eq_true rfl) fun a w ht hm => ?_
  refine wp_seq ?_
  refine wpr ?_
  refine wpl rfl rfl ht (ev_assign ht rfl rfl) ?_
  intro a ht
  refine wpList_nil ?_
  refine then_normal ?_
  refine wp_seq ?_
  refine wp_seq ?_
  refine wpr ?_
  refine wpl rfl rfl ht (ev_move ht rfl rfl) ?_
  intro a ht
  refine wpl rfl rfl ht (ev_len_of ht rfl rfl und_22 (hm.fact (φ := IntsAt A c m s) 0 rfl)) ?_
  intro a ht
  refine wpl rfl rfl ht (ev_move ht rfl rfl) ?_
  intro a ht
  refine wpList_nil ?_
  refine then_normal ?_
  refine wp_block ?_
  refine wpLoop (fun q a w => ∃ (xs0_1 : Int), slices_Index_int64_int64.l0 q s v xs0_1 = some r ∧ q ≤ k ∧ Tm 19 [(0, .slice A m c), (1, .int .i64 v), (4, .int .i64 0), (7, .int .i64 (s.length : Int)), (8, .int .i64 xs0_1)] a ∧ Ms X (fps []) w0 [] [IntsAt A c m s] w) (k0 := k) ⟨0, H, Nat.le_refl _, ht.sub ⟨rfl, rfl, rfl, rfl, rfl, trivial⟩, (hm.pick [] rfl (by decide)).pickφ [0] rfl⟩ ?_
  clear H ht hm
  intro q1 a w hJ
  obtain ⟨xs0_1, H, hqq1, ht, hm⟩ := hJ
  cases q1 with
  | zero => cases H
  | succ q1 =>
  rw [slices_Index_int64_int64.l0] at H
  refine wp_seq ?_
  refine wpr ?_
  refine wpl rfl rfl ht (ev_cmp ht rfl rfl rfl rfl) ?_
  intro a ht
  refine wpList_nil ?_
  refine then_normal ?_
  refine wp_seq ?_
  by_cases h2 : xs0_1 < (s.length : Int)
  · replace H := ite_yes h2 H
    refine wpc_yes ht rfl (decide_eq_true h2) ?_
    refine wp_skip ?_
    refine then_normal ?_
    refine wp_seq ?_
    refine wp_block ?_
    refine wp_seq ?_
    refine wpr ?_
    refine wpl rfl rfl ht (ev_move ht rfl rfl) ?_
    intro a ht
    refine wpl rfl rfl ht (ev_assign ht rfl rfl) ?_
    intro a ht
    refine wpList_nil ?_
    refine then_normal ?_
    refine wp_seq ?_
    refine wpr ?_
    refine wpl rfl rfl ht (ev_move ht rfl rfl) ?_
    intro a ht
    refine wpl rfl rfl ht (ev_move ht rfl rfl) ?_
    intro a ht
    refine wpl rfl rfl ht (ev_move ht rfl rfl) ?_
    intro a ht
    obtain ⟨t3, et3, H⟩ := bind_get H
    refine wpl rfl rfl ht (ev_index_ints ht rfl rfl rfl so_22 (hm.fact (φ := IntsAt A c m s) 0 rfl) et3) ?_
    intro a ht
    refine wpl rfl rfl ht (ev_load ht rfl rfl sc_2 (RowAt.cell (hm.fact (φ := IntsAt A c m s) 0 rfl) (ints_get et3) rfl)) ?_
    intro a ht
    refine wpl rfl rfl ht (ev_cmp ht rfl rfl rfl rfl) ?_
    intro a ht
    refine wpList_nil ?_
    refine then_normal ?_
    by_cases h4 : v = t3
    · replace H := ite_yes h4 H
      refine wpc_yes ht rfl (decide_eq_true h4) ?_
      refine wp_seq ?_
      refine wpr ?_
      refine wpl rfl rfl ht (ev_move ht rfl rfl) ?_
      intro a ht
      refine wpl rfl rfl ht (ev_assign ht rfl rfl) ?_
      intro a ht
      refine wpList_nil ?_
      refine then_normal ?_
      refine wp_ret ?_
      refine blk_ret ?_
      refine then_ret ?_
      refine then_ret ?_
      refine blk_ret ?_
      refine then_ret ?_
      have hres := ht.res (P := Try.prog) (w := w) (rs := [.tmp 4]) (vs := [.int .i64 xs0_1]) (.tmp rfl .nil)
      obtain rfl := Option.some.inj H
      exact leave ht rfl hres ⟨rfl, ((hm.pick [] rfl (by decide)).pickφ [] rfl).post fun _ h => h⟩
    · replace H := ite_no h4 H
      refine wpc_no ht rfl (decide_eq_false h4) ?_
      refine wp_skip ?_
      refine blk_normal ?_
      refine then_normal ?_
      refine wpr ?_
      refine wpl rfl rfl ht (ev_arith ht rfl rfl rfl rfl) ?_
      intro a ht
      refine wpl rfl rfl ht (ev_move ht rfl rfl) ?_
      intro a ht
      refine wpList_nil ?_
      exact then_normal ⟨q1, by omega, (w64 (xs0_1 + 1)), H, by omega, ht.sub ⟨rfl, rfl, rfl, rfl, rfl, trivial⟩, (hm.pick [] rfl (by decide)).pickφ [0] rfl⟩
  · replace H := ite_no h2 H
    refine wpc_no ht rfl (decide_eq_false h2) ?_
    refine wp_exit ?_
    refine then_exit ?_
    refine then_exit ?_
    refine blk_hit ?_
    refine then_normal ?_
    refine wp_seq ?_
    refine wpr ?_
    refine wpl rfl rfl ht (ev_assign ht rfl rfl) ?_
    intro a ht
    refine wpList_nil ?_
    refine then_normal ?_
    refine wp_ret ?_
    have hres := ht.res (P := Try.prog) (w := w) (rs := [.tmp 4]) (vs := [.int .i64 (-1)]) (.tmp rfl .nil)
    obtain rfl := Option.some.inj H
    exact leave ht rfl hres ⟨rfl, ((hm.pick [] rfl (by decide)).pickφ [] rfl).post fun _ h => h⟩

/-! ### slices_Contains_int64_int64: function 74 (slices.Contains[[]int64,int64]) -/
def slices_Contains_int64_int64.f (k : Nat) (s : List Int) (v : Int) : Option (Bool) := (slices_Index_int64_int64.f k s v).bind fun t1 => some (decide (t1 ≥ 0))
set_option maxRecDepth 100000 in
set_option maxHeartbeats 1000000 in
theorem slices_Contains_int64_int64.calls (k : Nat) (X : List Nat) (w0 : World) (A : Option Addr) (c : Nat) (m : Nat) (s : List Int) (v : Int) (r : Bool)
    (hp : Pre X w0 [] [IntsAt A c m s]) (H : slices_Contains_int64_int64.f k s v = some r) :
    Calls Try.prog 74 [.slice A m c, .int .i64 v].toArray w0 (Ret fun v w => v = .bool r ∧ Post X (fps []) w0 [] [] w) := by
  unfold slices_Contains_int64_int64.f at H
  refine enterM (n := 9) hp Try.func74 rfl rfl (Nat.le_of_ble_eq_true rfl) fun a w ht hm => ?_
  refine wp_seq ?_
  refine wpr ?_
  refine wpl rfl rfl ht (ev_assign ht rfl rfl) ?_
  intro a ht
  refine wpList_nil ?_
  refine then_normal ?_
  refine wp_seq ?_
  refine wpr ?_
  refine wpl rfl rfl ht (ev_move ht rfl rfl) ?_
  intro a ht
  refine wpl rfl rfl ht (ev_move ht rfl rfl) ?_
  intro a ht
  obtain ⟨t1, et1, H⟩ := bind_get H
  have hcall := slices_Index_int64_int64.calls k _ _ A c m s v _ ((fun (hq : Ms _ _ _ ([] ++ []) _ _) => hq.lend (φp := [IntsAt A c m s]) (allRO_cons (hq.lendFact 0 rfl) (allRO_nil))) (hm.pick (own' := [] ++ []) [] rfl (by decide))) et1
  refine wpl_call _ rfl rfl ht rfl rfl rfl rfl can_90 hcall ?_
  clear hcall
  rintro _ w ⟨rfl, hpost⟩ a ht
  replace hm := (hm.pick (own' := [] ++ []) [] rfl (by decide)).backL hpost
  clear hpost
  refine wpl rfl rfl ht (ev_cmp ht rfl rfl rfl rfl) ?_
  intro a ht
  refine wpl rfl rfl ht (ev_assign ht rfl rfl) ?_
  intro a ht
  refine wpList_nil ?_
  refine then_normal ?_
  refine wp_ret ?_
  have hres := ht.res (P := Try.prog) (w := w) (rs := [.tmp 4]) (vs := [.bool (decide (t1 ≥ 0))]) (.tmp rfl .nil)
  obtain rfl := Option.some.inj H
  exact leave ht rfl hres ⟨rfl, ((hm.pick [] rfl (by decide)).pickφ [] rfl).post fun _ h => h⟩

/-! ### impl_position_isPosition_1: function 73 ((loop.example/g01362/impl.position).isPosition$1) -/
def impl_position_isPosition_1.f (k : Nat) (edges : List Int) (x : Int) : Option (Bool) := (slices_Contains_int64_int64.f k edges x).bind fun t1 => some !t1
set_option maxRecDepth 100000 in
set_option maxHeartbeats 1000000 in
theorem impl_position_isPosition_1.calls (k : Nat) (X : List Nat) (w0 : World) (A : Option Addr) (c : Nat) (m : Nat) (b : Nat) (edges : List Int) (x : Int) (r : Bool)
    (hp : Pre X w0 [.blk b 2 [.int .i64 x]] [IntsAt A c m edges]) (H : impl_position_isPosition_1.f k edges x = some r) :
    Calls Try.prog 73 [.slice A m c, .pointer (some ⟨b, 0, none⟩)].toArray w0 (Ret fun v w => v = .bool r ∧ Post X (fps [.blk b 2 [.int .i64 x]]) w0 [.blk b 2 [.int .i64 x]] [] w) := by
  unfold impl_position_isPosition_1.f at H
  refine enterM (n := 8) hp Try.func73 rfl rfl (Nat.le_of_ble_eq_true rfl) fun a w ht hm => ?_
  refine wp_seq ?_
  refine wpr ?_
  refine wpl rfl rfl ht (ev_assign ht rfl rfl) ?_
  intro a ht
  refine wpList_nil ?_
  refine then_normal ?_
  refine wp_seq ?_
  refine wpr ?_
  refine wpl rfl rfl ht (ev_move ht rfl rfl) ?_
  intro a ht
  refine wpl rfl rfl ht (ev_load ht rfl rfl sc_2 (hm.blk_cell 0 rfl rfl)) ?_
  intro a ht
  obtain ⟨t1, et1, H⟩ := bind_get H
  have hcall := slices_Contains_int64_int64.calls k _ _ A c m edges x _ ((fun (hq : Ms _ _ _ ([] ++ [.blk b 2 [.int .i64 x]]) _ _) => hq.lend (φp := [IntsAt A c m edges]) (allRO_cons (hq.lendFact 0 rfl) (allRO_nil))) (hm.pick (own' := [] ++ [.blk b 2 [.int .i64 x]]) [0] rfl (by decide))) et1
  refine wpl_call _ rfl rfl ht rfl rfl rfl rfl can_74 hcall ?_
  clear hcall
  rintro _ w ⟨rfl, hpost⟩ a ht
  replace hm := (hm.pick (own' := [] ++ [.blk b 2 [.int .i64 x]]) [0] rfl (by decide)).backL hpost
  clear hpost
  refine wpl rfl rfl ht (ev_not ht rfl rfl) ?_
  intro a ht
  refine wpl rfl rfl ht (ev_assign ht rfl rfl) ?_
  intro a ht
  refine wpList_nil ?_
  refine then_normal ?_
  refine wp_ret ?_
  have hres := ht.res (P := Try.prog) (w := w) (rs := [.tmp 3]) (vs := [.bool !t1]) (.tmp rfl .nil)
  obtain rfl := Option.some.inj H
  exact leave ht rfl hres ⟨rfl, ((hm.pick [0] rfl (by decide)).pickφ [] rfl).post fun _ h => h⟩

/-! ### slices_IndexFunc_int64_int64__position_isPosition_1: function 89 (slices.IndexFunc[[][]int64,[]int64]) -/
def slices_IndexFunc_int64_int64__position_isPosition_1.l0 : Nat → List (List Int) → Int → Int → Option (Int)
  | 0, _, _, _ => none
  | q1 + 1, s, f, xs0_1 => if xs0_1 < (s.length : Int) then ((getR s xs0_1).bind fun l3 => (impl_position_isPosition_1.f q1 l3 f).bind fun t8 => if t8 = true then (some xs0_1) else (slices_IndexFunc_int64_int64__position_isPosition_1.l0 q1 s f (w64 (xs0_1 + 1)))) else (some (-1))
def slices_IndexFunc_int64_int64__position_isPosition_1.f (k : Nat) (s : List (List Int)) (f : Int) : Option (Int) := slices_IndexFunc_int64_int64__position_isPosition_1.l0 k s f 0
set_option maxRecDepth 100000 in
set_option maxHeartbeats 1000000 in
theorem slices_IndexFunc_int64_int64__position_isPosition_1.calls (k : Nat) (X : List Nat) (w0 : World) (A : Option Addr) (c : Nat) (m : Nat) (vs : List Value) (b : Nat) (s : List (List Int)) (f : Int) (r : Int)
    (hp : Pre X w0 [.blk b 2 [.int .i64 f]] [RowsAt A c m vs s]) (H : slices_IndexFunc_int64_int64__position_isPosition_1.f k s f = some r) :
    Calls Try.prog 89 [.slice A m c, .func (.func 73) [].toArray [.pointer (some ⟨b, 0, none⟩)].toArray].toArray w0 (Ret fun v w => v = .int .i64 r ∧ Post X (fps [.blk b 2 [.int .i64 f]]) w0 [.blk b 2 [.int .i64 f]] [] w) := by
  unfold slices_IndexFunc_int64_int64__position_isPosition_1.f at H
  refine enterM (n := 19) hp Try.func89 rfl rfl (Nat.le_of_ble_eq_true rfl) fun a w ht hm => ?_
  refine wp_seq ?_
  refine wpr ?_
  refine wpl rfl rfl ht (ev_assign ht rfl rfl) ?_
  intro a ht
  refine wpList_nil ?_
  refine then_normal ?_
  refine wp_seq ?_
  refine wp_seq ?_
  refine wpr ?_
  refine wpl rfl rfl ht (ev_move ht rfl rfl) ?_
  intro a ht
  refine wpl rfl rfl ht (ev_len_rows ht rfl rfl und_52 (hm.fact (φ := RowsAt A c m vs s) 0 rfl)) ?_
  intro a ht
  refine wpl rfl rfl ht (ev_move ht rfl rfl) ?_
  intro a ht
  refine wpList_nil ?_
  refine then_normal ?_
  refine wp_block ?_
  refine wpLoop (fun q a w => ∃ (xs0_1 : Int), slices_IndexFunc_int64_int64__position_isPosition_1.l0 q s f xs0_1 = some r ∧ q ≤ k ∧ Tm 19 [(0, .slice A m c), (1, .func (.func 73) [].toArray [.pointer (some ⟨b, 0, none⟩)].toArray), (4, .int .i64 0), (7, .int .i64 (s.length : Int)), (8, .int .i64 xs0_1)] a ∧ Ms X (fps [.blk b 2 [.int .i64 f]]) w0 [.blk b 2 [.int .i64 f]] [RowsAt A c m vs s] w) (k0 := k) ⟨0, H, Nat.le_refl _, ht.sub ⟨rfl, rfl, rfl, rfl, rfl, trivial⟩, (hm.pick [0] rfl (by decide)).pickφ [0] rfl⟩ ?_
  clear H ht hm
  intro q1 a w hJ
  obtain ⟨xs0_1, H, hqq1, ht, hm⟩ := hJ
  cases q1 with
  | zero => cases H
  | succ q1 =>
  rw [slices_IndexFunc_int64_int64__position_isPosition_1.l0] at H
  refine wp_seq ?_
  refine wpr ?_
  refine wpl rfl rfl ht (ev_cmp ht rfl rfl rfl rfl) ?_
  intro a ht
  refine wpList_nil ?_
  refine then_normal ?_
  refine wp_seq ?_
  by_cases h2 : xs0_1 < (s.length : Int)
  · replace H := ite_yes h2 H
    refine wpc_yes ht rfl (decide_eq_true h2) ?_
    refine wp_skip ?_
    refine then_normal ?_
    refine wp_seq ?_
    refine wp_block ?_
    refine wp_seq ?_
    refine wpr ?_
    refine wpl rfl rfl ht (ev_move ht rfl rfl) ?_
    intro a ht
    refine wpl rfl rfl ht (ev_assign ht rfl rfl) ?_
    intro a ht
    refine wpList_nil ?_
    refine then_normal ?_
    refine wp_seq ?_
    refine wpr ?_
    refine wpl rfl rfl ht (ev_move ht rfl rfl) ?_
    intro a ht
    refine wpl rfl rfl ht (ev_move ht rfl rfl) ?_
    intro a ht
    refine wpl rfl rfl ht (ev_move ht rfl rfl) ?_
    intro a ht
    obtain ⟨l3, el3, H⟩ := bind_get H
    refine wpl rfl rfl ht (ev_index_rows ht rfl rfl rfl so_52 (hm.fact (φ := RowsAt A c m vs s) 0 rfl) el3) ?_
    intro a ht
    obtain ⟨A4, c5, m6, hv7, hI⟩ := rowsAt_get (hm.fact (φ := RowsAt A c m vs s) 0 rfl) el3
    refine wpl rfl rfl ht (ev_load ht rfl rfl sc_22 (RowsAt.cell (hm.fact (φ := RowsAt A c m vs s) 0 rfl) hv7)) ?_
    intro a ht
    replace hm : Ms _ _ _ _ (IntsAt A4 c5 m6 l3 :: _) w := hm.addφ ((hm.ro 0 rfl).mono fun w h => rowsAt_at h hv7 el3)
    clear hI
    obtain ⟨t8, et8, H⟩ := bind_get H
    have hcall := impl_position_isPosition_1.calls q1 _ _ A4 c5 m6 b l3 f _ ((fun (hq : Ms _ _ _ ([.blk b 2 [.int .i64 f]] ++ []) _ _) => hq.lend (φp := [IntsAt A4 c5 m6 l3]) (allRO_cons (hq.lendFact 0 rfl) (allRO_nil))) (hm.pick (own' := [.blk b 2 [.int .i64 f]] ++ []) [0] rfl (by decide))) et8
    refine wpl_call _ rfl rfl ht rfl rfl rfl rfl can_73 hcall ?_
    clear hcall
    rintro _ w ⟨rfl, hpost⟩ a ht
    replace hm := (hm.pick (own' := [.blk b 2 [.int .i64 f]] ++ []) [0] rfl (by decide)).backL hpost
    clear hpost
    refine wpList_nil ?_
    refine then_normal ?_
    by_cases h9 : t8 = true
    · replace H := ite_yes h9 H
      refine wpc_yes ht rfl h9 ?_
      refine wp_seq ?_
      refine wpr ?_
      refine wpl rfl rfl ht (ev_move ht rfl rfl) ?_
      intro a ht
      refine wpl rfl rfl ht (ev_assign ht rfl rfl) ?_
      intro a ht
      refine wpList_nil ?_
      refine then_normal ?_
      refine wp_ret ?_
      refine blk_ret ?_
      refine then_ret ?_
      refine then_ret ?_
      refine blk_ret ?_
      refine then_ret ?_
      have hres := ht.res (P := Try.prog) (w := w) (rs := [.tmp 4]) (vs := [.int .i64 xs0_1]) (.tmp rfl .nil)
      obtain rfl := Option.some.inj H
      exact leave ht rfl hres ⟨rfl, ((hm.pick [0] rfl (by decide)).pickφ [] rfl).post fun _ h => h⟩
    · replace H := ite_no h9 H
      refine wpc_no ht rfl (Bool.eq_false_iff.mpr h9) ?_
      refine wp_skip ?_
      refine blk_normal ?_
      refine then_normal ?_
      refine wpr ?_
      refine wpl rfl rfl ht (ev_arith ht rfl rfl rfl rfl) ?_
      intro a ht
      refine wpl rfl rfl ht (ev_move ht rfl rfl) ?_
      intro a ht
      refine wpList_nil ?_
      exact then_normal ⟨q1, by omega, (w64 (xs0_1 + 1)), H, by omega, ht.sub ⟨rfl, rfl, rfl, rfl, rfl, trivial⟩, (hm.pick [0] rfl (by decide)).pickφ [1] rfl⟩
  · replace H := ite_no h2 H
    refine wpc_no ht rfl (decide_eq_false h2) ?_
    refine wp_exit ?_
    refine then_exit ?_
    refine then_exit ?_
    refine blk_hit ?_
    refine then_normal ?_
    refine wp_seq ?_
    refine wpr ?_
    refine wpl rfl rfl ht (ev_assign ht rfl rfl) ?_
    intro a ht
    refine wpList_nil ?_
    refine then_normal ?_
    refine wp_ret ?_
    have hres := ht.res (P := Try.prog) (w := w) (rs := [.tmp 4]) (vs := [.int .i64 (-1)]) (.tmp rfl .nil)
    obtain rfl := Option.some.inj H
    exact leave ht rfl hres ⟨rfl, ((hm.pick [0] rfl (by decide)).pickφ [] rfl).post fun _ h => h⟩

/-! ### slices_ContainsFunc_int64_int64__position_isPosition_1: function 72 (slices.ContainsFunc[[][]int64,[]int64]) -/
def slices_ContainsFunc_int64_int64__position_isPosition_1.f (k : Nat) (s : List (List Int)) (f : Int) : Option (Bool) := (slices_IndexFunc_int64_int64__position_isPosition_1.f k s f).bind fun t1 => some (decide (t1 ≥ 0))
set_option maxRecDepth 100000 in
set_option maxHeartbeats 1000000 in
theorem slices_ContainsFunc_int64_int64__position_isPosition_1.calls (k : Nat) (X : List Nat) (w0 : World) (A : Option Addr) (c : Nat) (m : Nat) (vs : List Value) (b : Nat) (s : List (List Int)) (f : Int) (r : Bool)
    (hp : Pre X w0 [.blk b 2 [.int .i64 f]] [RowsAt A c m vs s]) (H : slices_ContainsFunc_int64_int64__position_isPosition_1.f k s f = some r) :
    Calls Try.prog 72 [.slice A m c, .func (.func 73) [].toArray [.pointer (some ⟨b, 0, none⟩)].toArray].toArray w0 (Ret fun v w => v = .bool r ∧ Post X (fps [.blk b 2 [.int .i64 f]]) w0 [.blk b 2 [.int .i64 f]] [] w) := by
  unfold slices_ContainsFunc_int64_int64__position_isPosition_1.f at H
  refine enterM (n := 9) hp Try.func72 rfl rfl (Nat.le_of_ble_eq_true rfl) fun a w ht hm => ?_
  refine wp_seq ?_
  refine wpr ?_
  refine wpl rfl rfl ht (ev_assign ht rfl rfl) ?_
  intro a ht
  refine wpList_nil ?_
  refine then_normal ?_
  refine wp_seq ?_
  refine wpr ?_
  refine wpl rfl rfl ht (ev_move ht rfl rfl) ?_
  intro a ht
  refine wpl rfl rfl ht (ev_move ht rfl rfl) ?_
  intro a ht
  obtain ⟨t1, et1, H⟩ := bind_get H
  have hcall := slices_IndexFunc_int64_int64__position_isPosition_1.calls k _ _ A c m vs b s f _ ((fun (hq : Ms _ _ _ ([.blk b 2 [.int .i64 f]] ++ []) _ _) => hq.lend (φp := [RowsAt A c m vs s]) (allRO_cons (hq.lendFact 0 rfl) (allRO_nil))) (hm.pick (own' := [.blk b 2 [.int .i64 f]] ++ []) [0] rfl (by decide))) et1
  refine wpl_call _ rfl rfl ht rfl rfl rfl rfl can_89 hcall ?_
  clear hcall
  rintro _ w ⟨rfl, hpost⟩ a ht
  replace hm := (hm.pick (own' := [.blk b 2 [.int .i64 f]] ++ []) [0] rfl (by decide)).backL hpost
  clear hpost
  refine wpl rfl rfl ht (ev_cmp ht rfl rfl rfl rfl) ?_
  intro a ht
  refine wpl rfl rfl ht (ev_assign ht rfl rfl) ?_
  intro a ht
  refine wpList_nil ?_
  refine then_normal ?_
  refine wp_ret ?_
  have hres := ht.res (P := Try.prog) (w := w) (rs := [.tmp 4]) (vs := [.bool (decide (t1 ≥ 0))]) (.tmp rfl .nil)
  obtain rfl := Option.some.inj H
  exact leave ht rfl hres ⟨rfl, ((hm.pick [0] rfl (by decide)).pickφ [] rfl).post fun _ h => h⟩

end Go.Proofs.Ytfbdcidedjocdaa.G
