/- One step of the machine in plain words; the forms of a valid instruction. No program in sight; no conditions. -/
import Derived.Test.YtckikiaockkmbaaDoorYP5
import Derived.Test.YtckikiaockkmbaaDoorYP1
namespace Go.Proofs.YtckikiaockkmbaaDoor.Step
open Go.RowKit Kit Val
set_option linter.unusedVariables false
/-- a state -/
structure Ms where
  pc : Int
  r : List Int
  v : List Int
  a : List (List Int)
/-- the operators -/
def binV (k a b : Int) : Int := if k = 4 then (a + b) % 256 else if k = 5 then (a - b + 256) % 256 else if k = 6 then a * b % 256 else if k = 7 then bits .and .i64 a b else if k = 8 then bits .xor .i64 a b else if k = 9 then (if a = b then 1 else 0) else if a < b then 1 else 0
def addr (k i : Int) : Int := k * 4 + i % 4
def at0 (l : List Int) (i : Int) : Int := l.getD i.toNat 0
def row0 (l : List (List Int)) (i : Int) : List Int := l.getD i.toNat []
def put0 (l : List Int) (i x : Int) : List Int := l.set i.toNat x
/-- what an instruction does; the events behind the step's own -/
def eff (y : Ins) (s : Ms) : Ms × List Ev :=
  if y.op = 1 then ({ s with pc := s.pc + 1, r := put0 s.r y.a y.b }, [])
  else if y.op = 2 then ({ s with pc := s.pc + 1, r := put0 s.r y.a (at0 s.v y.b) }, [])
  else if y.op = 3 then ({ s with pc := s.pc + 1, v := put0 s.v y.a (at0 s.r y.b) }, [])
  else if y.op = 4 then ({ s with pc := s.pc + 1, r := put0 s.r y.a (at0 (row0 s.a y.b) (at0 s.r y.c % 4)) }, [(2, addr y.b (at0 s.r y.c))])
  else if y.op = 5 then ({ s with pc := s.pc + 1, a := s.a.set y.a.toNat (put0 (row0 s.a y.a) (at0 s.r y.b % 4) (at0 s.r y.c)) }, [(3, addr y.a (at0 s.r y.b))])
  else if y.op = 6 then ({ s with pc := s.pc + 1, r := put0 s.r y.a (binV y.b (at0 s.r y.c) (at0 s.r y.d)) }, [])
  else if y.op = 7 then ({ s with pc := s.pc + 1, r := put0 s.r y.a (if at0 s.r y.b = 0 then at0 s.r y.d else at0 s.r y.c) }, [])
  else if y.op = 8 then ({ s with pc := y.a }, [])
  else if y.op = 9 then ({ s with pc := if at0 s.r y.a = 0 then y.b else s.pc + 1 }, [])
  else if y.op = 10 then ({ s with pc := if (at0 s.r y.a + 255) % 256 = 0 then s.pc + 1 else y.b, r := put0 s.r y.a ((at0 s.r y.a + 255) % 256) }, [])
  else if y.op = 11 then ({ s with pc := s.pc + 1 }, [(4, at0 s.r y.a)])
  else if y.op = 12 then ({ s with pc := s.pc + 1 }, [])
  else (s, [])
/-- the forms of a valid instruction -/
inductive View (nv na nl : Nat) : Ins → Prop
  | const (a : Nat) (b : Int) (ha : a < 14) (hb : 0 ≤ b) (hb2 : b ≤ 255) : View nv na nl ⟨1, a, b, 0, 0⟩
  | get (a b : Nat) (ha : a < 14) (hb : b < nv) : View nv na nl ⟨2, a, b, 0, 0⟩
  | put (a b : Nat) (ha : a < nv) (hb : b < 14) : View nv na nl ⟨3, a, b, 0, 0⟩
  | load (a b c : Nat) (ha : a < 14) (hb : b < na) (hc : c < 14) : View nv na nl ⟨4, a, b, c, 0⟩
  | store (a b c : Nat) (ha : a < na) (hb : b < 14) (hc : c < 14) : View nv na nl ⟨5, a, b, c, 0⟩
  | bin (a : Nat) (b : Int) (c d : Nat) (ha : a < 14) (hb : 4 ≤ b) (hb2 : b ≤ 10) (hc : c < 14) (hd : d < 14) : View nv na nl ⟨6, a, b, c, d⟩
  | sel (a b c d : Nat) (ha : a < 14) (hb : b < 14) (hc : c < 14) (hd : d < 14) : View nv na nl ⟨7, a, b, c, d⟩
  | jump (a : Nat) (ha : a < nl) : View nv na nl ⟨8, a, 0, 0, 0⟩
  | zero (a b : Nat) (ha : a < 14) (hb : b < nl) : View nv na nl ⟨9, a, b, 0, 0⟩
  | loop (a b : Nat) (ha : a < 14) (hb : b < nl) : View nv na nl ⟨10, a, b, 0, 0⟩
  | rel (a : Nat) (ha : a < 14) : View nv na nl ⟨11, a, 0, 0, 0⟩
  | fence : View nv na nl ⟨12, 0, 0, 0, 0⟩
  | halt : View nv na nl ⟨13, 0, 0, 0, 0⟩
end Go.Proofs.YtckikiaockkmbaaDoor.Step

/- The operators and addresses of the machine: operate, l3Bin, address, l3Address. Conditions: values from 0 to 255, a number of an array in range. -/
namespace Go.Proofs.YtckikiaockkmbaaDoor.OpV
open Go.RowKit Kit Step
set_option linter.unusedVariables false
theorem toNat64 {m : Nat} (h : m ≤ 255) : (BitVec.ofInt 64 (m : Int)).toNat = m := by
  rw [BitVec.ofInt_natCast, BitVec.toNat_ofNat]; exact Nat.mod_eq_of_lt (by omega)
theorem and_nat {m n : Nat} (hm : m ≤ 255) (hn : n ≤ 255) : bits .and .i64 (m : Int) (n : Int) = ((m &&& n : Nat) : Int) := by
  have hx : m &&& n < 2 ^ 8 := Nat.and_lt_two_pow _ (by omega)
  show IntKind.i64.wrap ((BitVec.ofInt 64 (m : Int) &&& BitVec.ofInt 64 (n : Int)).toNat : Int) = _
  rw [BitVec.toNat_and, toNat64 hm, toNat64 hn]
  exact IntWalk.i64_in _ (by omega)
theorem xor_nat {m n : Nat} (hm : m ≤ 255) (hn : n ≤ 255) : bits .xor .i64 (m : Int) (n : Int) = ((m ^^^ n : Nat) : Int) := by
  have hx : m ^^^ n < 2 ^ 8 := Nat.xor_lt_two_pow (by omega) (by omega)
  show IntKind.i64.wrap ((BitVec.ofInt 64 (m : Int) ^^^ BitVec.ofInt 64 (n : Int)).toNat : Int) = _
  rw [BitVec.toNat_xor, toNat64 hm, toNat64 hn]
  exact IntWalk.i64_in _ (by omega)
theorem bin_range {k a b : Int} (h1 : 4 ≤ k) (h2 : k ≤ 10) (a0 : 0 ≤ a) (a1 : a ≤ 255) (b0 : 0 ≤ b) (b1 : b ≤ 255) : 0 ≤ binV k a b ∧ binV k a b ≤ 255 := by
  obtain rfl | rfl | rfl | rfl | rfl | rfl | rfl : k = 4 ∨ k = 5 ∨ k = 6 ∨ k = 7 ∨ k = 8 ∨ k = 9 ∨ k = 10 := by omega
  · simp [binV]; omega
  · simp [binV]; omega
  · have := Int.emod_nonneg (a * b) (show (256 : Int) ≠ 0 by decide)
    have := Int.emod_lt_of_pos (a * b) (show (0 : Int) < 256 by decide)
    simp [binV]; omega
  · obtain ⟨x, rfl⟩ := Int.eq_ofNat_of_zero_le a0
    obtain ⟨y, rfl⟩ := Int.eq_ofNat_of_zero_le b0
    have hx : x &&& y < 2 ^ 8 := Nat.and_lt_two_pow _ (by omega)
    rw [show binV 7 x y = ((x &&& y : Nat) : Int) from and_nat (by omega) (by omega)]; omega
  · obtain ⟨x, rfl⟩ := Int.eq_ofNat_of_zero_le a0
    obtain ⟨y, rfl⟩ := Int.eq_ofNat_of_zero_le b0
    have hx : x ^^^ y < 2 ^ 8 := Nat.xor_lt_two_pow (by omega) (by omega)
    rw [show binV 8 x y = ((x ^^^ y : Nat) : Int) from xor_nat (by omega) (by omega)]; omega
  · simp only [binV]; simp; split <;> decide
  · simp only [binV]; simp; split <;> decide
def one (x : Bool) : Int := if x then 1 else 0
theorem l3Bool (x : Bool) (w : World) : Calls Tryd.prog 94 #[.bool x] w fun e w' => e = .returned (.int .i64 (one x)) ∧ w = w' := by
  cases x
  all_goals
    go_enter Tryd.func94, Tryd.ntmps94
    go_wp2
    go_ret
    exact ⟨rfl, rfl⟩
set_option maxHeartbeats 2000000 in
theorem l3Bin (k a b : Int) (w : World) (h1 : 4 ≤ k) (h2 : k ≤ 10) (a0 : 0 ≤ a) (a1 : a ≤ 255) (b0 : 0 ≤ b) (b1 : b ≤ 255) :
    Calls Tryd.prog 105 #[.int .i64 k, .int .i64 a, .int .i64 b] w fun e w' => e = .returned (.int .i64 (binV k a b)) ∧ w = w' := by
  have ab0 : 0 ≤ a * b := Int.mul_nonneg a0 b0
  have ab1 : a * b ≤ 255 * 255 := Int.mul_le_mul a1 b1 b0 (by decide)
  obtain rfl | rfl | rfl | rfl | rfl | rfl | rfl : k = 4 ∨ k = 5 ∨ k = 6 ∨ k = 7 ∨ k = 8 ∨ k = 9 ∨ k = 10 := by omega
  all_goals
    go_enter Tryd.func105, Tryd.ntmps105
    go_wp2_with (go_at_call 94; refine (l3Bool _ _).mono ?_; rintro e w' ⟨rfl, rfl⟩)
    go_ret
    exact ⟨congrArg (fun z => Ending.returned (Value.int .i64 z)) (by simp [binV, one]), rfl⟩
theorem l3Address (k i : Int) (w : World) (k0 : 0 ≤ k) (k1 : k ≤ 1000) (i0 : 0 ≤ i) (i1 : i ≤ 1000) :
    Calls Tryd.prog 93 #[.int .i64 k, .int .i64 i] w fun e w' => e = .returned (.int .i64 (addr k i)) ∧ w = w' := by
  go_enter Tryd.func93, Tryd.ntmps93
  go_wp2
  go_ret
  exact ⟨congrArg (fun z => Ending.returned (Value.int .i64 z)) (by simp [addr]), rfl⟩
end Go.Proofs.YtckikiaockkmbaaDoor.OpV
