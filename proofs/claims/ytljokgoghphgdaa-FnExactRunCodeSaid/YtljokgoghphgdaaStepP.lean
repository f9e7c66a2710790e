/- One step of the machine in plain words; the forms of a valid instruction. No program in sight; no conditions. -/
import Derived.Test.YtljokgoghphgdaaValC
namespace Go.Proofs.Ytljokgoghphgdaa.Step
open Go.RowKit Kit Val
set_option linter.unusedVariables false
/-- a state -/
structure Ms where
  pc : Int
  r : List Int
  v : List Int
  a : List (List Int)
/-- the operators -/
def binV (k a b : Int) : Int := if k = 4 then (a + b) % 256 else if k = 5 then (a - b + 256) % 256 else if k = 6 then a * b % 256 else if k = 7 then bits .and .i64 a b else if k = 8 then bits .xor .i64 a b else if k = 9 then (if a = b then 1 else 0) else if a < b then 1 else 0
def addr (k i : Int) : Int := k * 4 + i % 4
def at0 (l : List Int) (i : Int) : Int := l.getD i.toNat 0
def row0 (l : List (List Int)) (i : Int) : List Int := l.getD i.toNat []
def put0 (l : List Int) (i x : Int) : List Int := l.set i.toNat x
/-- what an instruction does; the events behind the step's own -/
def eff (y : Ins) (s : Ms) : Ms × List Ev :=
  if y.op = 1 then ({ s with pc := s.pc + 1, r := put0 s.r y.a y.b }, [])
  else if y.op = 2 then ({ s with pc := s.pc + 1, r := put0 s.r y.a (at0 s.v y.b) }, [])
  else if y.op = 3 then ({ s with pc := s.pc + 1, v := put0 s.v y.a (at0 s.r y.b) }, [])
  else if y.op = 4 then ({ s with pc := s.pc + 1, r := put0 s.r y.a (at0 (row0 s.a y.b) (at0 s.r y.c % 4)) }, [(2, addr y.b (at0 s.r y.c))])
  else if y.op = 5 then ({ s with pc := s.pc + 1, a := s.a.set y.a.toNat (put0 (row0 s.a y.a) (at0 s.r y.b % 4) (at0 s.r y.c)) }, [(3, addr y.a (at0 s.r y.b))])
  else if y.op = 6 then ({ s with pc := s.pc + 1, r := put0 s.r y.a (binV y.b (at0 s.r y.c) (at0 s.r y.d)) }, [])
  else if y.op = 7 then ({ s with pc := s.pc + 1, r := put0 s.r y.a (if at0 s.r y.b = 0 then at0 s.r y.d else at0 s.r y.c) }, [])
  else if y.op = 8 then ({ s with pc := y.a }, [])
  else if y.op = 9 then ({ s with pc := if at0 s.r y.a = 0 then y.b else s.pc + 1 }, [])
  else if y.op = 10 then ({ s with pc := if (at0 s.r y.a + 255) % 256 = 0 then s.pc + 1 else y.b, r := put0 s.r y.a ((at0 s.r y.a + 255) % 256) }, [])
  else if y.op = 11 then ({ s with pc := s.pc + 1 }, [(4, at0 s.r y.a)])
  else if y.op = 12 then ({ s with pc := s.pc + 1 }, [])
  else (s, [])
/-- the forms of a valid instruction -/
inductive View (nv na nl : Nat) : Ins → Prop
  | const (a : Nat) (b : Int) (ha : a < 14) (hb : 0 ≤ b) (hb2 : b ≤ 255) : View nv na nl ⟨1, a, b, 0, 0⟩
  | get (a b : Nat) (ha : a < 14) (hb : b < nv) : View nv na nl ⟨2, a, b, 0, 0⟩
  | put (a b : Nat) (ha : a < nv) (hb : b < 14) : View nv na nl ⟨3, a, b, 0, 0⟩
  | load (a b c : Nat) (ha : a < 14) (hb : b < na) (hc : c < 14) : View nv na nl ⟨4, a, b, c, 0⟩
  | store (a b c : Nat) (ha : a < na) (hb : b < 14) (hc : c < 14) : View nv na nl ⟨5, a, b, c, 0⟩
  | bin (a : Nat) (b : Int) (c d : Nat) (ha : a < 14) (hb : 4 ≤ b) (hb2 : b ≤ 10) (hc : c < 14) (hd : d < 14) : View nv na nl ⟨6, a, b, c, d⟩
  | sel (a b c d : Nat) (ha : a < 14) (hb : b < 14) (hc : c < 14) (hd : d < 14) : View nv na nl ⟨7, a, b, c, d⟩
  | jump (a : Nat) (ha : a < nl) : View nv na nl ⟨8, a, 0, 0, 0⟩
  | zero (a b : Nat) (ha : a < 14) (hb : b < nl) : View nv na nl ⟨9, a, b, 0, 0⟩
  | loop (a b : Nat) (ha : a < 14) (hb : b < nl) : View nv na nl ⟨10, a, b, 0, 0⟩
  | rel (a : Nat) (ha : a < 14) : View nv na nl ⟨11, a, 0, 0, 0⟩
  | fence : View nv na nl ⟨12, 0, 0, 0, 0⟩
  | halt : View nv na nl ⟨13, 0, 0, 0, 0⟩
theorem nat_of {n : Int} {m : Nat} (h0 : 0 ≤ n) (h : n < m) : ∃ k : Nat, n = k ∧ k < m := ⟨n.toNat, by omega, by omega⟩
theorem view {nv na nl : Nat} {y : Ins} (h : insS nv na nl y = true) : View nv na nl y := by
  obtain ⟨op, a, b, c, d⟩ := y
  unfold insS at h
  simp only [Bool.and_eq_true, decide_eq_true_eq] at h
  obtain ⟨⟨h1, h2⟩, h3⟩ := h
  obtain rfl | rfl | rfl | rfl | rfl | rfl | rfl | rfl | rfl | rfl | rfl | rfl | rfl := ops_of h1 h2 <;> simp [lettersS, parts, fieldsS, rangeS] at h3
  · obtain ⟨⟨a0, a1⟩, ⟨b0, b1⟩, rfl, rfl⟩ := h3; obtain ⟨k, rfl, hk⟩ := nat_of (m := 14) a0 (by omega); exact .const k b hk b0 b1
  · obtain ⟨⟨a0, a1⟩, ⟨b0, b1⟩, rfl, rfl⟩ := h3; obtain ⟨k, rfl, hk⟩ := nat_of (m := 14) a0 (by omega); obtain ⟨j, rfl, hj⟩ := nat_of b0 b1; exact .get k j hk hj
  · obtain ⟨⟨a0, a1⟩, ⟨b0, b1⟩, rfl, rfl⟩ := h3; obtain ⟨k, rfl, hk⟩ := nat_of a0 a1; obtain ⟨j, rfl, hj⟩ := nat_of (m := 14) b0 (by omega); exact .put k j hk hj
  · obtain ⟨⟨a0, a1⟩, ⟨b0, b1⟩, ⟨c0, c1⟩, rfl⟩ := h3; obtain ⟨k, rfl, hk⟩ := nat_of (m := 14) a0 (by omega); obtain ⟨j, rfl, hj⟩ := nat_of b0 b1; obtain ⟨i, rfl, hi⟩ := nat_of (m := 14) c0 (by omega); exact .load k j i hk hj hi
  · obtain ⟨⟨a0, a1⟩, ⟨b0, b1⟩, ⟨c0, c1⟩, rfl⟩ := h3; obtain ⟨k, rfl, hk⟩ := nat_of a0 a1; obtain ⟨j, rfl, hj⟩ := nat_of (m := 14) b0 (by omega); obtain ⟨i, rfl, hi⟩ := nat_of (m := 14) c0 (by omega); exact .store k j i hk hj hi
  · obtain ⟨⟨a0, a1⟩, ⟨b0, b1⟩, ⟨c0, c1⟩, d0, d1⟩ := h3; obtain ⟨k, rfl, hk⟩ := nat_of (m := 14) a0 (by omega); obtain ⟨i, rfl, hi⟩ := nat_of (m := 14) c0 (by omega); obtain ⟨j, rfl, hj⟩ := nat_of (m := 14) d0 (by omega); exact .bin k b i j hk b0 b1 hi hj
  · obtain ⟨⟨a0, a1⟩, ⟨b0, b1⟩, ⟨c0, c1⟩, d0, d1⟩ := h3; obtain ⟨k, rfl, hk⟩ := nat_of (m := 14) a0 (by omega); obtain ⟨q, rfl, hq⟩ := nat_of (m := 14) b0 (by omega); obtain ⟨i, rfl, hi⟩ := nat_of (m := 14) c0 (by omega); obtain ⟨j, rfl, hj⟩ := nat_of (m := 14) d0 (by omega); exact .sel k q i j hk hq hi hj
  · obtain ⟨⟨a0, a1⟩, rfl, rfl, rfl⟩ := h3; obtain ⟨k, rfl, hk⟩ := nat_of a0 a1; exact .jump k hk
  · obtain ⟨⟨a0, a1⟩, ⟨b0, b1⟩, rfl, rfl⟩ := h3; obtain ⟨k, rfl, hk⟩ := nat_of (m := 14) a0 (by omega); obtain ⟨j, rfl, hj⟩ := nat_of b0 b1; exact .zero k j hk hj
  · obtain ⟨⟨a0, a1⟩, ⟨b0, b1⟩, rfl, rfl⟩ := h3; obtain ⟨k, rfl, hk⟩ := nat_of (m := 14) a0 (by omega); obtain ⟨j, rfl, hj⟩ := nat_of b0 b1; exact .loop k j hk hj
  · obtain ⟨⟨a0, a1⟩, rfl, rfl, rfl⟩ := h3; obtain ⟨k, rfl, hk⟩ := nat_of (m := 14) a0 (by omega); exact .rel k hk
  · obtain ⟨rfl, rfl, rfl, rfl⟩ := h3; exact .fence
  · obtain ⟨rfl, rfl, rfl, rfl⟩ := h3; exact .halt
end Go.Proofs.Ytljokgoghphgdaa.Step
