/- What the pure functions come to, one by one (part 3). -/
import Derived.Test.YtjhcacfhahpdgaaPFnExactFirstCycle2
import Derived.Test.YtjhcacfhahpdgaaGFnExactFirstCycle8
namespace Go.Proofs.Ytjhcacfhahpdgaa.P
open Go Go.RowKit Go.Proofs.Ytjhcacfhahpdgaa.K Go.Proofs.Ytjhcacfhahpdgaa.G
set_option linter.unusedVariables false
set_option linter.unusedSimpArgs false

theorem spec_l01Ones_run (s : Nat) (hs : s < 2 ^ 62) : Run (fun k => spec_l01Ones.f k (s : Int)) (· = (cnt s.testBit 62 : Int)) := by
  unfold spec_l01Ones.f
  refine Run.loop (L := fun q (z : Int × Int) => spec_l01Ones.l0 q z.1 z.2) (fun z => z.1.toNat) (fun z => ∃ v a n : Nat, z = ((v : Int), (a : Int)) ∧ v < 2 ^ n ∧ n ≤ 62 ∧ a ≤ 62 - n ∧ a + cnt v.testBit n = cnt s.testBit 62) ?_ (s, 0) ⟨s, 0, 62, rfl, hs, by omega, by omega, by omega⟩
  rintro _ ⟨v, a, n, rfl, hv, hn, ha, hc⟩ ih
  simp only [spec_l01Ones.l0]
  refine Run.ite (fun h => ?_) (fun h => ?_)
  · have hn0 : n ≠ 0 := by intro h0; subst h0; simp at hv; omega
    obtain ⟨n, rfl⟩ : ∃ m, n = m + 1 := ⟨n - 1, by omega⟩
    have hb : (2 : Nat) ^ (n + 1) ≤ 2 ^ 62 := Nat.pow_le_pow_right (by omega) hn
    have hp : (2 : Nat) ^ (n + 1) = 2 ^ n * 2 := Nat.pow_succ ..
    have e1 : Int.tdiv (v : Int) 2 = ((v / 2 : Nat) : Int) := rfl
    have e2 : Int.tmod (v : Int) 2 = ((v % 2 : Nat) : Int) := rfl
    rw [cnt_half] at hc
    rw [e1, e2, w64_id (x := ((v / 2 : Nat) : Int)) (by omega), w64_id (x := (a : Int) + ((v % 2 : Nat) : Int)) (by omega)]
    refine ih (((v / 2 : Nat) : Int), ((a + v % 2 : Nat) : Int)) ⟨v / 2, a + v % 2, n, rfl, by omega, by omega, by omega, by omega⟩ (by simp only; omega)
  · obtain rfl : v = 0 := by omega
    refine Run.ret ?_
    have : cnt (0 : Nat).testBit n = 0 := by
      unfold cnt
      rw [sel_congr (g := fun _ => false) fun j _ => by simp]
      have : sel (fun _ => false) n = [] := by simp [sel]
      rw [this]; rfl
    omega
end Go.Proofs.Ytjhcacfhahpdgaa.P
