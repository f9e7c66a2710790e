/- The operators and addresses of the machine: operate, l3Bin, address, l3Address. Conditions: values from 0 to 255, a number of an array in range. -/
import Derived.Test.YtljokgoghphgdaaStepP
import Derived.Test.YtljokgoghphgdaaLab
import Derived.Test.YtljokgoghphgdaaKit
namespace Go.Proofs.Ytljokgoghphgdaa.OpV
open Go.RowKit Kit Step
set_option linter.unusedVariables false
theorem toNat64 {m : Nat} (h : m ≤ 255) : (BitVec.ofInt 64 (m : Int)).toNat = m := by
  rw [BitVec.ofInt_natCast, BitVec.toNat_ofNat]; exact Nat.mod_eq_of_lt (by omega)
theorem and_nat {m n : Nat} (hm : m ≤ 255) (hn : n ≤ 255) : bits .and .i64 (m : Int) (n : Int) = ((m &&& n : Nat) : Int) := by
  have hx : m &&& n < 2 ^ 8 := Nat.and_lt_two_pow _ (by omega)
  show IntKind.i64.wrap ((BitVec.ofInt 64 (m : Int) &&& BitVec.ofInt 64 (n : Int)).toNat : Int) = _
  rw [BitVec.toNat_and, toNat64 hm, toNat64 hn]
  exact IntWalk.i64_in _ (by omega)
theorem xor_nat {m n : Nat} (hm : m ≤ 255) (hn : n ≤ 255) : bits .xor .i64 (m : Int) (n : Int) = ((m ^^^ n : Nat) : Int) := by
  have hx : m ^^^ n < 2 ^ 8 := Nat.xor_lt_two_pow (by omega) (by omega)
  show IntKind.i64.wrap ((BitVec.ofInt 64 (m : Int) ^^^ BitVec.ofInt 64 (n : Int)).toNat : Int) = _
  rw [BitVec.toNat_xor, toNat64 hm, toNat64 hn]
  exact IntWalk.i64_in _ (by omega)
theorem bin_range {k a b : Int} (h1 : 4 ≤ k) (h2 : k ≤ 10) (a0 : 0 ≤ a) (a1 : a ≤ 255) (b0 : 0 ≤ b) (b1 : b ≤ 255) : 0 ≤ binV k a b ∧ binV k a b ≤ 255 := by
  obtain rfl | rfl | rfl | rfl | rfl | rfl | rfl : k = 4 ∨ k = 5 ∨ k = 6 ∨ k = 7 ∨ k = 8 ∨ k = 9 ∨ k = 10 := by omega
  · simp [binV]; omega
  · simp [binV]; omega
  · have := Int.emod_nonneg (a * b) (show (256 : Int) ≠ 0 by decide)
    have := Int.emod_lt_of_pos (a * b) (show (0 : Int) < 256 by decide)
    simp [binV]; omega
  · obtain ⟨x, rfl⟩ := Int.eq_ofNat_of_zero_le a0
    obtain ⟨y, rfl⟩ := Int.eq_ofNat_of_zero_le b0
    have hx : x &&& y < 2 ^ 8 := Nat.and_lt_two_pow _ (by omega)
    rw [show binV 7 x y = ((x &&& y : Nat) : Int) from and_nat (by omega) (by omega)]; omega
  · obtain ⟨x, rfl⟩ := Int.eq_ofNat_of_zero_le a0
    obtain ⟨y, rfl⟩ := Int.eq_ofNat_of_zero_le b0
    have hx : x ^^^ y < 2 ^ 8 := Nat.xor_lt_two_pow (by omega) (by omega)
    rw [show binV 8 x y = ((x ^^^ y : Nat) : Int) from xor_nat (by omega) (by omega)]; omega
  · simp only [binV]; simp; split <;> decide
  · simp only [binV]; simp; split <;> decide
def one (x : Bool) : Int := if x then 1 else 0
theorem truth (x : Bool) (w : World) : Calls Try.prog 118 #[.bool x] w fun e w' => e = .returned (.int .i64 (one x)) ∧ w = w' := by
  cases x
  all_goals
    go_enter Try.func118, Try.ntmps118
    go_wp2
    go_ret
    exact ⟨rfl, rfl⟩
theorem l3Bool (x : Bool) (w : World) : Calls Try.prog 119 #[.bool x] w fun e w' => e = .returned (.int .i64 (one x)) ∧ w = w' := by
  cases x
  all_goals
    go_enter Try.func119, Try.ntmps119
    go_wp2
    go_ret
    exact ⟨rfl, rfl⟩
set_option maxHeartbeats 2000000 in
theorem operate (k a b : Int) (w : World) (h1 : 4 ≤ k) (h2 : k ≤ 10) (a0 : 0 ≤ a) (a1 : a ≤ 255) (b0 : 0 ≤ b) (b1 : b ≤ 255) :
    Calls Try.prog 94 #[.int .i64 k, .int .i64 a, .int .i64 b] w fun e w' => e = .returned (.int .i64 (binV k a b)) ∧ w = w' := by
  have ab0 : 0 ≤ a * b := Int.mul_nonneg a0 b0
  have ab1 : a * b ≤ 255 * 255 := Int.mul_le_mul a1 b1 b0 (by decide)
  obtain rfl | rfl | rfl | rfl | rfl | rfl | rfl : k = 4 ∨ k = 5 ∨ k = 6 ∨ k = 7 ∨ k = 8 ∨ k = 9 ∨ k = 10 := by omega
  all_goals
    go_enter Try.func94, Try.ntmps94
    go_wp2_with (go_at_call 118; refine (truth _ _).mono ?_; rintro e w' ⟨rfl, rfl⟩)
    go_ret
    exact ⟨congrArg (fun z => Ending.returned (Value.int .i64 z)) (by simp [binV, one]), rfl⟩
set_option maxHeartbeats 2000000 in
theorem l3Bin (k a b : Int) (w : World) (h1 : 4 ≤ k) (h2 : k ≤ 10) (a0 : 0 ≤ a) (a1 : a ≤ 255) (b0 : 0 ≤ b) (b1 : b ≤ 255) :
    Calls Try.prog 97 #[.int .i64 k, .int .i64 a, .int .i64 b] w fun e w' => e = .returned (.int .i64 (binV k a b)) ∧ w = w' := by
  have ab0 : 0 ≤ a * b := Int.mul_nonneg a0 b0
  have ab1 : a * b ≤ 255 * 255 := Int.mul_le_mul a1 b1 b0 (by decide)
  obtain rfl | rfl | rfl | rfl | rfl | rfl | rfl : k = 4 ∨ k = 5 ∨ k = 6 ∨ k = 7 ∨ k = 8 ∨ k = 9 ∨ k = 10 := by omega
  all_goals
    go_enter Try.func97, Try.ntmps97
    go_wp2_with (go_at_call 119; refine (l3Bool _ _).mono ?_; rintro e w' ⟨rfl, rfl⟩)
    go_ret
    exact ⟨congrArg (fun z => Ending.returned (Value.int .i64 z)) (by simp [binV, one]), rfl⟩
theorem address (k i : Int) (w : World) (k0 : 0 ≤ k) (k1 : k ≤ 1000) (i0 : 0 ≤ i) (i1 : i ≤ 1000) :
    Calls Try.prog 93 #[.int .i64 k, .int .i64 i] w fun e w' => e = .returned (.int .i64 (addr k i)) ∧ w = w' := by
  go_enter Try.func93, Try.ntmps93
  go_wp2
  go_ret
  exact ⟨congrArg (fun z => Ending.returned (Value.int .i64 z)) (by simp [addr]), rfl⟩
theorem l3Address (k i : Int) (w : World) (k0 : 0 ≤ k) (k1 : k ≤ 1000) (i0 : 0 ≤ i) (i1 : i ≤ 1000) :
    Calls Try.prog 96 #[.int .i64 k, .int .i64 i] w fun e w' => e = .returned (.int .i64 (addr k i)) ∧ w = w' := by
  go_enter Try.func96, Try.ntmps96
  go_wp2
  go_ret
  exact ⟨congrArg (fun z => Ending.returned (Value.int .i64 z)) (by simp [addr]), rfl⟩
end Go.Proofs.Ytljokgoghphgdaa.OpV
