/- One step of the machine in plain words; the forms of a valid instruction. No program in sight; no conditions. -/
import Derived.Test.YtbicpkmlionldaaVP5
import Derived.Test.YtbicpkmlionldaaVP1
import Derived.Test.YtbicpkmlionldaaVP2
namespace Go.Proofs.Ytbicpkmlionldaa.Step
open Go.RowKit Kit Val
set_option linter.unusedVariables false
/-- a state -/
structure Ms where
  pc : Int
  r : List Int
  v : List Int
  a : List (List Int)
/-- the operators -/
def binV (k a b : Int) : Int := if k = 4 then (a + b) % 256 else if k = 5 then (a - b + 256) % 256 else if k = 6 then a * b % 256 else if k = 7 then bits .and .i64 a b else if k = 8 then bits .xor .i64 a b else if k = 9 then (if a = b then 1 else 0) else if a < b then 1 else 0
def addr (k i : Int) : Int := k * 4 + i % 4
def at0 (l : List Int) (i : Int) : Int := l.getD i.toNat 0
def row0 (l : List (List Int)) (i : Int) : List Int := l.getD i.toNat []
def put0 (l : List Int) (i x : Int) : List Int := l.set i.toNat x
/-- what an instruction does; the events behind the step's own -/
def eff (y : Ins) (s : Ms) : Ms × List Ev :=
  if y.op = 1 then ({ s with pc := s.pc + 1, r := put0 s.r y.a y.b }, [])
  else if y.op = 2 then ({ s with pc := s.pc + 1, r := put0 s.r y.a (at0 s.v y.b) }, [])
  else if y.op = 3 then ({ s with pc := s.pc + 1, v := put0 s.v y.a (at0 s.r y.b) }, [])
  else if y.op = 4 then ({ s with pc := s.pc + 1, r := put0 s.r y.a (at0 (row0 s.a y.b) (at0 s.r y.c % 4)) }, [(2, addr y.b (at0 s.r y.c))])
  else if y.op = 5 then ({ s with pc := s.pc + 1, a := s.a.set y.a.toNat (put0 (row0 s.a y.a) (at0 s.r y.b % 4) (at0 s.r y.c)) }, [(3, addr y.a (at0 s.r y.b))])
  else if y.op = 6 then ({ s with pc := s.pc + 1, r := put0 s.r y.a (binV y.b (at0 s.r y.c) (at0 s.r y.d)) }, [])
  else if y.op = 7 then ({ s with pc := s.pc + 1, r := put0 s.r y.a (if at0 s.r y.b = 0 then at0 s.r y.d else at0 s.r y.c) }, [])
  else if y.op = 8 then ({ s with pc := y.a }, [])
  else if y.op = 9 then ({ s with pc := if at0 s.r y.a = 0 then y.b else s.pc + 1 }, [])
  else if y.op = 10 then ({ s with pc := if (at0 s.r y.a + 255) % 256 = 0 then s.pc + 1 else y.b, r := put0 s.r y.a ((at0 s.r y.a + 255) % 256) }, [])
  else if y.op = 11 then ({ s with pc := s.pc + 1 }, [(4, at0 s.r y.a)])
  else if y.op = 12 then ({ s with pc := s.pc + 1 }, [])
  else (s, [])
/-- the forms of a valid instruction -/
inductive View (nv na nl : Nat) : Ins → Prop
  | const (a : Nat) (b : Int) (ha : a < 14) (hb : 0 ≤ b) (hb2 : b ≤ 255) : View nv na nl ⟨1, a, b, 0, 0⟩
  | get (a b : Nat) (ha : a < 14) (hb : b < nv) : View nv na nl ⟨2, a, b, 0, 0⟩
  | put (a b : Nat) (ha : a < nv) (hb : b < 14) : View nv na nl ⟨3, a, b, 0, 0⟩
  | load (a b c : Nat) (ha : a < 14) (hb : b < na) (hc : c < 14) : View nv na nl ⟨4, a, b, c, 0⟩
  | store (a b c : Nat) (ha : a < na) (hb : b < 14) (hc : c < 14) : View nv na nl ⟨5, a, b, c, 0⟩
  | bin (a : Nat) (b : Int) (c d : Nat) (ha : a < 14) (hb : 4 ≤ b) (hb2 : b ≤ 10) (hc : c < 14) (hd : d < 14) : View nv na nl ⟨6, a, b, c, d⟩
  | sel (a b c d : Nat) (ha : a < 14) (hb : b < 14) (hc : c < 14) (hd : d < 14) : View nv na nl ⟨7, a, b, c, d⟩
  | jump (a : Nat) (ha : a < nl) : View nv na nl ⟨8, a, 0, 0, 0⟩
  | zero (a b : Nat) (ha : a < 14) (hb : b < nl) : View nv na nl ⟨9, a, b, 0, 0⟩
  | loop (a b : Nat) (ha : a < 14) (hb : b < nl) : View nv na nl ⟨10, a, b, 0, 0⟩
  | rel (a : Nat) (ha : a < 14) : View nv na nl ⟨11, a, 0, 0, 0⟩
  | fence : View nv na nl ⟨12, 0, 0, 0, 0⟩
  | halt : View nv na nl ⟨13, 0, 0, 0, 0⟩
theorem nat_of {n : Int} {m : Nat} (h0 : 0 ≤ n) (h : n < m) : ∃ k : Nat, n = k ∧ k < m := ⟨n.toNat, by omega, by omega⟩
theorem view {nv na nl : Nat} {y : Ins} (h : insS nv na nl y = true) : View nv na nl y := by
  obtain ⟨op, a, b, c, d⟩ := y
  unfold insS at h
  simp only [Bool.and_eq_true, decide_eq_true_eq] at h
  obtain ⟨⟨h1, h2⟩, h3⟩ := h
  obtain rfl | rfl | rfl | rfl | rfl | rfl | rfl | rfl | rfl | rfl | rfl | rfl | rfl := ops_of h1 h2 <;> simp [lettersS, parts, fieldsS, rangeS] at h3
  · obtain ⟨⟨a0, a1⟩, ⟨b0, b1⟩, rfl, rfl⟩ := h3; obtain ⟨k, rfl, hk⟩ := nat_of (m := 14) a0 (by omega); exact .const k b hk b0 b1
  · obtain ⟨⟨a0, a1⟩, ⟨b0, b1⟩, rfl, rfl⟩ := h3; obtain ⟨k, rfl, hk⟩ := nat_of (m := 14) a0 (by omega); obtain ⟨j, rfl, hj⟩ := nat_of b0 b1; exact .get k j hk hj
  · obtain ⟨⟨a0, a1⟩, ⟨b0, b1⟩, rfl, rfl⟩ := h3; obtain ⟨k, rfl, hk⟩ := nat_of a0 a1; obtain ⟨j, rfl, hj⟩ := nat_of (m := 14) b0 (by omega); exact .put k j hk hj
  · obtain ⟨⟨a0, a1⟩, ⟨b0, b1⟩, ⟨c0, c1⟩, rfl⟩ := h3; obtain ⟨k, rfl, hk⟩ := nat_of (m := 14) a0 (by omega); obtain ⟨j, rfl, hj⟩ := nat_of b0 b1; obtain ⟨i, rfl, hi⟩ := nat_of (m := 14) c0 (by omega); exact .load k j i hk hj hi
  · obtain ⟨⟨a0, a1⟩, ⟨b0, b1⟩, ⟨c0, c1⟩, rfl⟩ := h3; obtain ⟨k, rfl, hk⟩ := nat_of a0 a1; obtain ⟨j, rfl, hj⟩ := nat_of (m := 14) b0 (by omega); obtain ⟨i, rfl, hi⟩ := nat_of (m := 14) c0 (by omega); exact .store k j i hk hj hi
  · obtain ⟨⟨a0, a1⟩, ⟨b0, b1⟩, ⟨c0, c1⟩, d0, d1⟩ := h3; obtain ⟨k, rfl, hk⟩ := nat_of (m := 14) a0 (by omega); obtain ⟨i, rfl, hi⟩ := nat_of (m := 14) c0 (by omega); obtain ⟨j, rfl, hj⟩ := nat_of (m := 14) d0 (by omega); exact .bin k b i j hk b0 b1 hi hj
  · obtain ⟨⟨a0, a1⟩, ⟨b0, b1⟩, ⟨c0, c1⟩, d0, d1⟩ := h3; obtain ⟨k, rfl, hk⟩ := nat_of (m := 14) a0 (by omega); obtain ⟨q, rfl, hq⟩ := nat_of (m := 14) b0 (by omega); obtain ⟨i, rfl, hi⟩ := nat_of (m := 14) c0 (by omega); obtain ⟨j, rfl, hj⟩ := nat_of (m := 14) d0 (by omega); exact .sel k q i j hk hq hi hj
  · obtain ⟨⟨a0, a1⟩, rfl, rfl, rfl⟩ := h3; obtain ⟨k, rfl, hk⟩ := nat_of a0 a1; exact .jump k hk
  · obtain ⟨⟨a0, a1⟩, ⟨b0, b1⟩, rfl, rfl⟩ := h3; obtain ⟨k, rfl, hk⟩ := nat_of (m := 14) a0 (by omega); obtain ⟨j, rfl, hj⟩ := nat_of b0 b1; exact .zero k j hk hj
  · obtain ⟨⟨a0, a1⟩, ⟨b0, b1⟩, rfl, rfl⟩ := h3; obtain ⟨k, rfl, hk⟩ := nat_of (m := 14) a0 (by omega); obtain ⟨j, rfl, hj⟩ := nat_of b0 b1; exact .loop k j hk hj
  · obtain ⟨⟨a0, a1⟩, rfl, rfl, rfl⟩ := h3; obtain ⟨k, rfl, hk⟩ := nat_of (m := 14) a0 (by omega); exact .rel k hk
  · obtain ⟨rfl, rfl, rfl, rfl⟩ := h3; exact .fence
  · obtain ⟨rfl, rfl, rfl, rfl⟩ := h3; exact .halt
end Go.Proofs.Ytbicpkmlionldaa.Step

/- The operators and addresses of the machine: operate, l3Bin, address, l3Address. Conditions: values from 0 to 255, a number of an array in range. -/
namespace Go.Proofs.Ytbicpkmlionldaa.OpV
open Go.RowKit Kit Step
set_option linter.unusedVariables false
theorem toNat64 {m : Nat} (h : m ≤ 255) : (BitVec.ofInt 64 (m : Int)).toNat = m := by
  rw [BitVec.ofInt_natCast, BitVec.toNat_ofNat]; exact Nat.mod_eq_of_lt (by omega)
theorem and_nat {m n : Nat} (hm : m ≤ 255) (hn : n ≤ 255) : bits .and .i64 (m : Int) (n : Int) = ((m &&& n : Nat) : Int) := by
  have hx : m &&& n < 2 ^ 8 := Nat.and_lt_two_pow _ (by omega)
  show IntKind.i64.wrap ((BitVec.ofInt 64 (m : Int) &&& BitVec.ofInt 64 (n : Int)).toNat : Int) = _
  rw [BitVec.toNat_and, toNat64 hm, toNat64 hn]
  exact IntWalk.i64_in _ (by omega)
theorem xor_nat {m n : Nat} (hm : m ≤ 255) (hn : n ≤ 255) : bits .xor .i64 (m : Int) (n : Int) = ((m ^^^ n : Nat) : Int) := by
  have hx : m ^^^ n < 2 ^ 8 := Nat.xor_lt_two_pow (by omega) (by omega)
  show IntKind.i64.wrap ((BitVec.ofInt 64 (m : Int) ^^^ BitVec.ofInt 64 (n : Int)).toNat : Int) = _
  rw [BitVec.toNat_xor, toNat64 hm, toNat64 hn]
  exact IntWalk.i64_in _ (by omega)
theorem bin_range {k a b : Int} (h1 : 4 ≤ k) (h2 : k ≤ 10) (a0 : 0 ≤ a) (a1 : a ≤ 255) (b0 : 0 ≤ b) (b1 : b ≤ 255) : 0 ≤ binV k a b ∧ binV k a b ≤ 255 := by
  obtain rfl | rfl | rfl | rfl | rfl | rfl | rfl : k = 4 ∨ k = 5 ∨ k = 6 ∨ k = 7 ∨ k = 8 ∨ k = 9 ∨ k = 10 := by omega
  · simp [binV]; omega
  · simp [binV]; omega
  · have := Int.emod_nonneg (a * b) (show (256 : Int) ≠ 0 by decide)
    have := Int.emod_lt_of_pos (a * b) (show (0 : Int) < 256 by decide)
    simp [binV]; omega
  · obtain ⟨x, rfl⟩ := Int.eq_ofNat_of_zero_le a0
    obtain ⟨y, rfl⟩ := Int.eq_ofNat_of_zero_le b0
    have hx : x &&& y < 2 ^ 8 := Nat.and_lt_two_pow _ (by omega)
    rw [show binV 7 x y = ((x &&& y : Nat) : Int) from and_nat (by omega) (by omega)]; omega
  · obtain ⟨x, rfl⟩ := Int.eq_ofNat_of_zero_le a0
    obtain ⟨y, rfl⟩ := Int.eq_ofNat_of_zero_le b0
    have hx : x ^^^ y < 2 ^ 8 := Nat.xor_lt_two_pow (by omega) (by omega)
    rw [show binV 8 x y = ((x ^^^ y : Nat) : Int) from xor_nat (by omega) (by omega)]; omega
  · simp only [binV]; simp; split <;> decide
  · simp only [binV]; simp; split <;> decide
def one (x : Bool) : Int := if x then 1 else 0
theorem truth (x : Bool) (w : World) : Calls Try.prog 95 #[.bool x] w fun e w' => e = .returned (.int .i64 (one x)) ∧ w = w' := by
  cases x
  all_goals
    go_enter Try.func95, Try.ntmps95
    go_wp2
    go_ret
    exact ⟨rfl, rfl⟩
theorem l3Bool (x : Bool) (w : World) : Calls Try.prog 107 #[.bool x] w fun e w' => e = .returned (.int .i64 (one x)) ∧ w = w' := by
  cases x
  all_goals
    go_enter Try.func107, Try.ntmps107
    go_wp2
    go_ret
    exact ⟨rfl, rfl⟩
set_option maxHeartbeats 2000000 in
theorem operate (k a b : Int) (w : World) (h1 : 4 ≤ k) (h2 : k ≤ 10) (a0 : 0 ≤ a) (a1 : a ≤ 255) (b0 : 0 ≤ b) (b1 : b ≤ 255) :
    Calls Try.prog 65 #[.int .i64 k, .int .i64 a, .int .i64 b] w fun e w' => e = .returned (.int .i64 (binV k a b)) ∧ w = w' := by
  have ab0 : 0 ≤ a * b := Int.mul_nonneg a0 b0
  have ab1 : a * b ≤ 255 * 255 := Int.mul_le_mul a1 b1 b0 (by decide)
  obtain rfl | rfl | rfl | rfl | rfl | rfl | rfl : k = 4 ∨ k = 5 ∨ k = 6 ∨ k = 7 ∨ k = 8 ∨ k = 9 ∨ k = 10 := by omega
  all_goals
    go_enter Try.func65, Try.ntmps65
    go_wp2_with (go_at_call 95; refine (truth _ _).mono ?_; rintro e w' ⟨rfl, rfl⟩)
    go_ret
    exact ⟨congrArg (fun z => Ending.returned (Value.int .i64 z)) (by simp [binV, one]), rfl⟩
set_option maxHeartbeats 2000000 in
theorem l3Bin (k a b : Int) (w : World) (h1 : 4 ≤ k) (h2 : k ≤ 10) (a0 : 0 ≤ a) (a1 : a ≤ 255) (b0 : 0 ≤ b) (b1 : b ≤ 255) :
    Calls Try.prog 81 #[.int .i64 k, .int .i64 a, .int .i64 b] w fun e w' => e = .returned (.int .i64 (binV k a b)) ∧ w = w' := by
  have ab0 : 0 ≤ a * b := Int.mul_nonneg a0 b0
  have ab1 : a * b ≤ 255 * 255 := Int.mul_le_mul a1 b1 b0 (by decide)
  obtain rfl | rfl | rfl | rfl | rfl | rfl | rfl : k = 4 ∨ k = 5 ∨ k = 6 ∨ k = 7 ∨ k = 8 ∨ k = 9 ∨ k = 10 := by omega
  all_goals
    go_enter Try.func81, Try.ntmps81
    go_wp2_with (go_at_call 107; refine (l3Bool _ _).mono ?_; rintro e w' ⟨rfl, rfl⟩)
    go_ret
    exact ⟨congrArg (fun z => Ending.returned (Value.int .i64 z)) (by simp [binV, one]), rfl⟩
theorem address (k i : Int) (w : World) (k0 : 0 ≤ k) (k1 : k ≤ 1000) (i0 : 0 ≤ i) (i1 : i ≤ 1000) :
    Calls Try.prog 64 #[.int .i64 k, .int .i64 i] w fun e w' => e = .returned (.int .i64 (addr k i)) ∧ w = w' := by
  go_enter Try.func64, Try.ntmps64
  go_wp2
  go_ret
  exact ⟨congrArg (fun z => Ending.returned (Value.int .i64 z)) (by simp [addr]), rfl⟩
theorem l3Address (k i : Int) (w : World) (k0 : 0 ≤ k) (k1 : k ≤ 1000) (i0 : 0 ≤ i) (i1 : i ≤ 1000) :
    Calls Try.prog 80 #[.int .i64 k, .int .i64 i] w fun e w' => e = .returned (.int .i64 (addr k i)) ∧ w = w' := by
  go_enter Try.func80, Try.ntmps80
  go_wp2
  go_ret
  exact ⟨congrArg (fun z => Ending.returned (Value.int .i64 z)) (by simp [addr]), rfl⟩
end Go.Proofs.Ytbicpkmlionldaa.OpV

/- What the walks of one step share: the state that valid code may be in, small equations, and what stands at the places where the ways meet. No conditions. -/
namespace Go.Proofs.Ytbicpkmlionldaa.StepK
open Go.RowKit Kit Step MarkC
set_option linter.unusedVariables false
theorem at0_nat {l : List Int} {a : Nat} (h : a < l.length) : at0 l a = l[a] := by simp [at0, h]
theorem row0_nat {l : List (List Int)} {a : Nat} (h : a < l.length) : row0 l a = l[a] := by simp [row0, h]
theorem at0_mod {l : List Int} {n : Nat} (h : n % 4 < l.length) : at0 l ((n : Int) % 4) = l[n % 4] := by rw [show ((n : Int) % 4) = ((n % 4 : Nat) : Int) by omega]; exact at0_nat h
theorem put0_mod (l : List Int) (n : Nat) (z : Int) : put0 l ((n : Int) % 4) z = l.set (n % 4) z := by
  rw [show ((n : Int) % 4) = ((n % 4 : Nat) : Int) by omega]
  show l.set (((n % 4 : Nat) : Int)).toNat z = _
  rw [Int.toNat_natCast]
theorem put0_nat (l : List Int) (a : Nat) (z : Int) : put0 l a z = l.set a z := by simp [put0]
/-- a state that code of nv variables, na arrays and nl instructions may be in -/
structure Okm (nv na nl : Nat) (s : Ms) : Prop where
  rl : s.r.length = 14
  rv : ∀ i (h : i < s.r.length), 0 ≤ s.r[i] ∧ s.r[i] ≤ 255
  vl : s.v.length = nv
  vv : ∀ i (h : i < s.v.length), 0 ≤ s.v[i] ∧ s.v[i] ≤ 255
  al : s.a.length = na
  ar : ∀ i (h : i < s.a.length), s.a[i].length = 4
  av : ∀ i (h : i < s.a.length) j (h' : j < s.a[i].length), 0 ≤ s.a[i][j] ∧ s.a[i][j] ≤ 255
theorem ev_own {w : World} {be : Nat} {k u : Int} {T : TypeId} {base : Nat} (h : w.heap[be]? = some (.cells #[.int .i64 k, .int .i64 u] T (0, 0))) (hb : base ≤ be) : OwnF 2 encE w base T (.slice (some ⟨be, 0, none⟩) 1 1) [(k, u)] :=
  OwnF.mk' (xs := [(k, u)]) h hb (by simp) (by decide) (by simp) (fun i hi t ht => by
    obtain rfl : i = 0 := by simpa using hi
    match t, ht with
    | 0, _ => rfl
    | 1, _ => rfl)
theorem app_kp {w w1 : World} {be : Nat} {o : Obj} {n c : Nat} (h : Kp (fun k => (Value.slice (some ⟨be, 0, none⟩) n c).ownBlock = some k) (w.alloc o) w1) : Kp (fun k => k = be) w w1 :=
  ((Kp.refl (fun k => k = be) w).alloc o).trans (h.mono fun k _ e => by simpa [Value.ownBlock, eq_comm] using e)
theorem infoE : (Try.prog.info? 68).map (fun i => (i.zero, i.size, i.bytes)) = some (some (.agg #[.int .i64 0, .int .i64 0]), 2, 16) := by kernel_rfl
/-- where the next instruction stands -/
def mv (y : Ins) (p : Int) (r : List Int) : Int := if y.op = 8 then y.a else if y.op = 9 ∧ at0 r y.a = 0 ∨ y.op = 10 ∧ at0 r y.a ≠ 0 then y.b else if y.op = 13 then p else p + 1
theorem mv_eff {nv na nl : Nat} {y : Ins} (h : View nv na nl y) {s : Ms} (hr : s.r.length = 14) : mv y s.pc (eff y s).1.r = (eff y s).1.pc := by
  cases h with
  | loop a b ha hb =>
    have e : at0 (put0 s.r a ((at0 s.r a + 255) % 256)) a = (at0 s.r a + 255) % 256 := by
      rw [put0_nat, at0_nat (by rw [List.length_set]; omega), List.getElem_set_self]
    by_cases h0 : (at0 s.r a + 255) % 256 = 0
    · rw [h0] at e
      simp [mv, eff, e, h0]
    · simp [mv, eff, e, h0]
  | zero a b ha hb => simp [mv, eff]
  | _ => simp [mv, eff]
theorem eff_len {nv na nl : Nat} {y : Ins} (h : View nv na nl y) (s : Ms) : (eff y s).1.r.length = s.r.length ∧ (eff y s).2.length ≤ 1 := by
  cases h <;> simp [eff, put0_nat]
/-- behind the first event: bx the instruction's box, then the machine's and the result's (w.heap.size + 1, + 2) -/
structure Mid (w wd : World) (lo hi bx : Nat) (tv v1 vr va vb : Value) (y : Ins) (p : Int) (yr ya : List Int) (yb : List (List Int)) : Prop where
  N : Kp (fun k => tv.ownBlock = some k) w wd
  hbx : w.heap.size + 1 + 1 < bx
  hh : hi ≤ w.heap.size
  tl : ∀ b, tv.ownBlock = some b → b < w.heap.size
  off : ∀ b, v1.ownBlock = some b → b < lo ∨ hi ≤ b
  old : ∀ b, v1.ownBlock = some b → tv.ownBlock = some b ∨ bx < b
  x : wd.heap[bx]? = some (.cells #[.int .i64 y.op, .int .i64 y.a, .int .i64 y.b, .int .i64 y.c, .int .i64 y.d] 42)
  s : wd.heap[w.heap.size + 1]? = some (.cells #[.int .i64 p, vr, va, vb] 38)
  r : wd.heap[w.heap.size + 1 + 1]? = some (.cells #[.int .i64 0, .slice none 0 0, .slice none 0 0, .slice none 0 0] 38)
  o : MachO wd lo hi vr va vb yr ya yb
theorem mid {w w1 wd : World} {lo hi bx base : Nat} {tv v1 vr va vb : Value} {y : Ins} {p : Int} {yr ya : List Int} {yb : List (List Int)} (N1 : New w w1) (hbx : w.heap.size + 1 + 1 < bx) (hh : hi ≤ w.heap.size) (tl : ∀ b, tv.ownBlock = some b → base ≤ b ∧ b < w.heap.size)
    (off : ∀ b, tv.ownBlock = some b → b < lo ∨ hi ≤ b) (k : Kp (fun k => tv.ownBlock = some k) w1 wd) (ha : v1.ownBlock = tv.ownBlock ∨ ∀ b, v1.ownBlock = some b → w1.heap.size ≤ b)
    (bX : w1.heap[bx]? = some (.cells #[.int .i64 y.op, .int .i64 y.a, .int .i64 y.b, .int .i64 y.c, .int .i64 y.d] 42)) (bS : w1.heap[w.heap.size + 1]? = some (.cells #[.int .i64 p, vr, va, vb] 38))
    (bR : w1.heap[w.heap.size + 1 + 1]? = some (.cells #[.int .i64 0, .slice none 0 0, .slice none 0 0, .slice none 0 0] 38)) (hO : MachO w lo hi vr va vb yr ya yb) : Mid w wd lo hi bx tv v1 vr va vb y p yr ya yb := by
  have hx := heap_lt bX
  have keep : ∀ {b : Nat} {x : Obj}, w1.heap[b]? = some x → w.heap.size ≤ b → wd.heap[b]? = some x := fun h hb => (k.block _ (heap_lt h) (fun e => by have := (tl _ e).2; omega)).trans h
  refine ⟨(N1.mono fun _ _ f => f.elim).trans k, hbx, hh, fun b e => (tl b e).2, fun b e => ?_, fun b e => ?_, keep bX (by omega), keep bS (by omega), keep bR (by omega), (hO.new hh N1).kp k fun b e => off b e⟩
  · rcases ha with h | h
    · exact off b (h ▸ e)
    · have := h b e; have := N1.size; omega
  · rcases ha with h | h
    · exact .inl (h ▸ e)
    · have := h b e; exact .inr (by omega)
/-- where the ways of the instructions meet -/
structure Mid2 (we wz : World) (lo hi base : Nat) (v1 v vr va vb : Value) (s : Ms) (l : List Ev) : Prop where
  k : Kp (fun k => lo ≤ k ∧ k < hi ∨ v1.ownBlock = some k) we wz
  o : MachO wz lo hi vr va vb s.r s.v s.a
  e : OwnF 2 encE wz base 68 v l
  a : v.ownBlock = v1.ownBlock ∨ ∀ b, v.ownBlock = some b → we.heap.size ≤ b
theorem Mid2.same {we : World} {lo hi base : Nat} {v1 vr va vb : Value} {s : Ms} {l : List Ev} (hO : MachO we lo hi vr va vb s.r s.v s.a) (hE : OwnF 2 encE we base 68 v1 l) : Mid2 we we lo hi base v1 v1 vr va vb s l := ⟨Kp.refl _ _, hO, hE, .inl rfl⟩
theorem Mid2.app {we wf : World} {lo hi base : Nat} {v1 v vr va vb : Value} {s : Ms} {l : List Ev} (kf : Kp (fun k => v1.ownBlock = some k) we wf) (a : v.ownBlock = v1.ownBlock ∨ ∀ b, v.ownBlock = some b → we.heap.size ≤ b) (hO : MachO we lo hi vr va vb s.r s.v s.a) (off : ∀ b, v1.ownBlock = some b → b < lo ∨ hi ≤ b)
    (hE : OwnF 2 encE wf base 68 v l) : Mid2 we wf lo hi base v1 v vr va vb s l := ⟨kf.mono fun _ _ e => .inr e, hO.kp kf off, hE, a⟩
theorem Mid2.set {we wf : World} {lo hi base b o : Nat} {v1 v vr va vb u : Value} {s : Ms} {l : List Ev} (kf : Kp (fun k => v1.ownBlock = some k) we wf) (a : v.ownBlock = v1.ownBlock ∨ ∀ b, v.ownBlock = some b → we.heap.size ≤ b) (off : ∀ b, v1.ownBlock = some b → b < lo ∨ hi ≤ b) (hh : hi ≤ we.heap.size)
    (hE : OwnF 2 encE wf base 68 v l) (h1 : lo ≤ b) (h2 : b < hi) (hO : MachO (wf.setCell ⟨b, o, none⟩ u) lo hi vr va vb s.r s.v s.a) : Mid2 we (wf.setCell ⟨b, o, none⟩ u) lo hi base v1 v vr va vb s l := by
  have ks : Kp (fun k => k = b) wf (wf.setCell ⟨b, o, none⟩ u) := (Kp.refl (fun k => k = b) wf).setCell (p := ⟨b, o, none⟩) (.inl rfl) _
  refine ⟨(kf.mono fun _ _ e => .inr e).trans (ks.mono fun k _ e => by subst e; exact .inl ⟨h1, h2⟩), hO, hE.kp ks fun c hc e => ?_, a⟩
  subst e
  rcases a with h | h
  · have := off _ (h ▸ hc); omega
  · have := h _ hc; omega
theorem Mid2.drew {we wz : World} {lo hi base : Nat} {v1 v vr va vb : Value} {s : Ms} {l : List Ev} (h : Mid2 we wz lo hi base v1 v vr va vb s l) : Mid2 we wz.drew lo hi base v1 v vr va vb s l :=
  ⟨h.k.drew, h.o.kp ((Kp.refl (fun _ => False) wz).drew) (fun _ f => f.elim), h.e.new ((Kp.refl _ _).drew), h.a⟩
/-- what one step of the reference leaves -/
def PostX (w : World) (lo hi base : Nat) (tv vr va vb : Value) (s : Ms) (l : List Ev) (e : Ending) (w' : World) : Prop := ∃ v, e = .returned (.tuple #[.agg #[.int .i64 s.pc, vr, va, vb], v]) ∧ Kp (fun k => lo ≤ k ∧ k < hi ∨ tv.ownBlock = some k) w w' ∧ MachO w' lo hi vr va vb s.r s.v s.a ∧ OwnF 2 encE w' base 68 v l ∧ ∀ b, v.ownBlock = some b → tv.ownBlock = some b ∨ w.heap.size ≤ b
end Go.Proofs.Ytbicpkmlionldaa.StepK

/- What stands at the places where the ways of one step of the reference meet; a machine of the call's own in blocks lo .. hi - 1 but for block g. No conditions. -/
namespace Go.Proofs.Ytbicpkmlionldaa.MarkC
open Go.RowKit Kit
set_option linter.unusedVariables false
def MachH (w : World) (lo hi g : Nat) (vr va vb : Value) (yr ya : List Int) (yb : List (List Int)) : Prop := ∃ p1 p2 p3 p4, lo ≤ p1 ∧ p2 ≤ hi ∧ lo ≤ p3 ∧ p4 ≤ hi ∧ (p2 ≤ p3 ∨ p4 ≤ p1) ∧ (g < p1 ∨ p2 ≤ g) ∧ (g < p3 ∨ p4 ≤ g) ∧ OwnR 1 encI w p1 p2 3 vr yr ∧ MemO w p3 p4 va vb ya yb
namespace MachH
variable {w w' : World} {lo hi g : Nat} {vr va vb : Value} {yr ya : List Int} {yb : List (List Int)}
theorem of (h : MachO w lo hi vr va vb yr ya yb) : MachH w lo hi hi vr va vb yr ya yb := by
  obtain ⟨p1, p2, p3, p4, q1, q2, q3, q4, q5, A, B⟩ := h
  exact ⟨p1, p2, p3, p4, q1, q2, q3, q4, q5, .inr q2, .inr q4, A, B⟩
theorem toO (h : MachH w lo hi g vr va vb yr ya yb) : MachO w lo hi vr va vb yr ya yb := by
  obtain ⟨p1, p2, p3, p4, q1, q2, q3, q4, q5, _, _, A, B⟩ := h
  exact ⟨p1, p2, p3, p4, q1, q2, q3, q4, q5, A, B⟩
theorem toR (h : MachH w lo hi g vr va vb yr ya yb) : Rec.MachR w lo hi vr va vb yr ya yb := h.toO.toR
theorem kp (h : MachH w lo hi g vr va vb yr ya yb) {S : Nat → Prop} (k : Kp S w w') (hs : ∀ b, S b → b < lo ∨ hi ≤ b ∨ b = g) : MachH w' lo hi g vr va vb yr ya yb := by
  obtain ⟨p1, p2, p3, p4, q1, q2, q3, q4, q5, q6, q7, A, B⟩ := h
  exact ⟨p1, p2, p3, p4, q1, q2, q3, q4, q5, q6, q7, A.kp k (fun b hb => by have := hs b hb; omega), B.kp k (fun b hb => by have := hs b hb; omega)⟩
theorem new (h : MachH w lo hi g vr va vb yr ya yb) (hh : hi ≤ w.heap.size) (k : New w w') : MachH w' lo hi g vr va vb yr ya yb := h.kp k (fun _ f => f.elim)
theorem regs {n d : Nat} {a : Option Addr} (h : MachH w lo hi g (.slice a n d) va vb yr ya yb) (h0 : 0 < yr.length) :
    ∃ b, a = some ⟨b, 0, none⟩ ∧ lo ≤ b ∧ b < hi ∧ b ≠ g ∧ (∀ i (h : i < yr.length), w.cell? ⟨b, i, none⟩ = some (.int .i64 yr[i])) ∧ (∀ i, w.frozen? ⟨b, i, none⟩ = false) ∧
      ∀ j (hj : j < yr.length) z, MachH (w.setCell ⟨b, j, none⟩ (.int .i64 z)) lo hi g (.slice a n d) va vb (yr.set j z) ya yb := by
  obtain ⟨p1, p2, p3, p4, q1, q2, q3, q4, q5, q6, q7, A, B⟩ := h
  obtain ⟨hn, b, rfl, hc, hf⟩ := own_cells A.own h0
  have hl := A.own.lt b (ownBlock_at _ _ _)
  have ht := A.top b (ownBlock_at _ _ _)
  refine ⟨b, rfl, by omega, by omega, by omega, hc, hf, fun j hj z => ⟨p1, p2, p3, p4, q1, q2, q3, q4, q5, q6, q7, OwnR_set A hn j hj z, B.kp (S := fun x => x = b) ((Kp.refl (fun x => x = b) w).setCell (.inl rfl) _) (fun x e => by omega)⟩⟩
theorem vals {n d : Nat} {a : Option Addr} (h : MachH w lo hi g vr (.slice a n d) vb yr ya yb) (h0 : 0 < ya.length) :
    ∃ b, a = some ⟨b, 0, none⟩ ∧ lo ≤ b ∧ b < hi ∧ b ≠ g ∧ (∀ i (h : i < ya.length), w.cell? ⟨b, i, none⟩ = some (.int .i64 ya[i])) ∧ (∀ i, w.frozen? ⟨b, i, none⟩ = false) ∧
      ∀ j (hj : j < ya.length) z, MachH (w.setCell ⟨b, j, none⟩ (.int .i64 z)) lo hi g vr (.slice a n d) vb yr (ya.set j z) yb := by
  obtain ⟨p1, p2, p3, p4, q1, q2, q3, q4, q5, q6, q7, A, m1, m2, m3, m4, r1, r2, r3, r4, r5, B, C⟩ := h
  obtain ⟨hn, b, rfl, hc, hf⟩ := own_cells B.own h0
  have hl := B.own.lt b (ownBlock_at _ _ _)
  have ht := B.top b (ownBlock_at _ _ _)
  refine ⟨b, rfl, by omega, by omega, by omega, hc, hf, fun j hj z => ⟨p1, p2, p3, p4, q1, q2, q3, q4, q5, q6, q7, A.kp (S := fun x => x = b) ((Kp.refl (fun x => x = b) w).setCell (.inl rfl) _) (fun x e => by omega), m1, m2, m3, m4, r1, r2, r3, r4, r5, OwnR_set B hn j hj z, C.kp (S := fun x => x = b) ((Kp.refl (fun x => x = b) w).setCell (.inl rfl) _) (fun x e => by omega)⟩⟩
theorem rows {n d : Nat} {a : Option Addr} (h : MachH w lo hi g vr va (.slice a n d) yr ya yb) (k : Nat) (hk : k < yb.length) (h0 : 0 < yb[k].length) :
    ∃ b c d2, a = some ⟨b, 0, none⟩ ∧ lo ≤ b ∧ b < hi ∧ w.cell? ⟨b, k, none⟩ = some (.slice (some ⟨c, 0, none⟩) yb[k].length d2) ∧ lo ≤ c ∧ c < hi ∧ c ≠ g ∧ (∀ i (h : i < yb[k].length), w.cell? ⟨c, i, none⟩ = some (.int .i64 yb[k][i])) ∧ (∀ i, w.frozen? ⟨c, i, none⟩ = false) ∧
      ∀ j (hj : j < yb[k].length) z, MachH (w.setCell ⟨c, j, none⟩ (.int .i64 z)) lo hi g vr va (.slice a n d) yr ya (yb.set k (yb[k].set j z)) := by
  obtain ⟨p1, p2, p3, p4, q1, q2, q3, q4, q5, q6, q7, A, m1, m2, m3, m4, r1, r2, r3, r4, r5, B, C⟩ := h
  obtain ⟨b, s, rfl, hb1, hb2, hcell, hO, hne, hset⟩ := C.row k hk
  rcases hO.form with ⟨e, _⟩ | ⟨c, cap, cs, rfl, hc1, _, _, hh, hn, hc⟩
  · rw [e] at h0; exact absurd h0 (Nat.lt_irrefl _)
  · have hcc := hne c (ownBlock_at _ _ _)
    obtain ⟨_, c', e', hcs, hf⟩ := own_cells hO h0
    cases e'
    refine ⟨b, c, cap, rfl, by omega, by omega, hcell, by omega, by omega, by omega, hcs, hf, fun j hj z => ?_⟩
    have kk : Kp (fun x => x = c) w (w.setCell ⟨c, j, none⟩ (.int .i64 z)) := (Kp.refl (fun x => x = c) w).setCell (.inl rfl) _
    refine ⟨p1, p2, p3, p4, q1, q2, q3, q4, q5, q6, q7, A.kp kk (fun x e => by omega), m1, m2, m3, m4, r1, r2, r3, r4, r5, B.kp kk (fun x e => by omega), hset _ _ (kk.mono fun x _ e => by subst e; exact ownBlock_at _ _ _) (hO.set1 (enc := encI) j hj z)⟩
end MachH
end Go.Proofs.Ytbicpkmlionldaa.MarkC
namespace Go.Proofs.Ytbicpkmlionldaa.StepH
open Go.RowKit Kit Step MarkC StepK
/-- behind the first event: bx the instruction's box, then the machine's and the result's (w.heap.size + 1, + 2) -/
structure Mid (w wd : World) (lo hi g bx : Nat) (tv v1 vr va vb : Value) (y : Ins) (p : Int) (yr ya : List Int) (yb : List (List Int)) : Prop where
  N : Kp (fun k => tv.ownBlock = some k) w wd
  hbx : w.heap.size + 1 + 1 < bx
  hh : hi ≤ w.heap.size
  tl : ∀ b, tv.ownBlock = some b → b < w.heap.size
  off : ∀ b, v1.ownBlock = some b → b < lo ∨ hi ≤ b ∨ b = g
  old : ∀ b, v1.ownBlock = some b → tv.ownBlock = some b ∨ bx < b
  x : wd.heap[bx]? = some (.cells #[.int .i64 y.op, .int .i64 y.a, .int .i64 y.b, .int .i64 y.c, .int .i64 y.d] 42)
  s : wd.heap[w.heap.size + 1]? = some (.cells #[.int .i64 p, vr, va, vb] 38)
  r : wd.heap[w.heap.size + 1 + 1]? = some (.cells #[.int .i64 0, .slice none 0 0, .slice none 0 0, .slice none 0 0] 38)
  o : MachH wd lo hi g vr va vb yr ya yb
theorem mid {w w1 wd : World} {lo hi g bx base : Nat} {tv v1 vr va vb : Value} {y : Ins} {p : Int} {yr ya : List Int} {yb : List (List Int)} (N1 : New w w1) (hbx : w.heap.size + 1 + 1 < bx) (hh : hi ≤ w.heap.size) (tl : ∀ b, tv.ownBlock = some b → base ≤ b ∧ b < w.heap.size)
    (off : ∀ b, tv.ownBlock = some b → b < lo ∨ hi ≤ b ∨ b = g) (k : Kp (fun k => tv.ownBlock = some k) w1 wd) (ha : v1.ownBlock = tv.ownBlock ∨ ∀ b, v1.ownBlock = some b → w1.heap.size ≤ b)
    (bX : w1.heap[bx]? = some (.cells #[.int .i64 y.op, .int .i64 y.a, .int .i64 y.b, .int .i64 y.c, .int .i64 y.d] 42)) (bS : w1.heap[w.heap.size + 1]? = some (.cells #[.int .i64 p, vr, va, vb] 38))
    (bR : w1.heap[w.heap.size + 1 + 1]? = some (.cells #[.int .i64 0, .slice none 0 0, .slice none 0 0, .slice none 0 0] 38)) (hO : MachH w lo hi g vr va vb yr ya yb) : Mid w wd lo hi g bx tv v1 vr va vb y p yr ya yb := by
  have hx := heap_lt bX
  have keep : ∀ {b : Nat} {x : Obj}, w1.heap[b]? = some x → w.heap.size ≤ b → wd.heap[b]? = some x := fun h hb => (k.block _ (heap_lt h) (fun e => by have := (tl _ e).2; omega)).trans h
  refine ⟨(N1.mono fun _ _ f => f.elim).trans k, hbx, hh, fun b e => (tl b e).2, fun b e => ?_, fun b e => ?_, keep bX (by omega), keep bS (by omega), keep bR (by omega), (hO.new hh N1).kp k fun b e => off b e⟩
  · rcases ha with h | h
    · exact off b (h ▸ e)
    · have := h b e; have := N1.size; omega
  · rcases ha with h | h
    · exact .inl (h ▸ e)
    · have := h b e; exact .inr (by omega)
/-- where the ways of the instructions meet -/
structure Mid2 (we wz : World) (lo hi g base : Nat) (v1 v vr va vb : Value) (s : Ms) (l : List Ev) : Prop where
  k : Kp (fun k => lo ≤ k ∧ k < hi ∧ k ≠ g ∨ v1.ownBlock = some k) we wz
  o : MachH wz lo hi g vr va vb s.r s.v s.a
  e : OwnF 2 encE wz base 68 v l
  a : v.ownBlock = v1.ownBlock ∨ ∀ b, v.ownBlock = some b → we.heap.size ≤ b
theorem Mid2.same {we : World} {lo hi g base : Nat} {v1 vr va vb : Value} {s : Ms} {l : List Ev} (hO : MachH we lo hi g vr va vb s.r s.v s.a) (hE : OwnF 2 encE we base 68 v1 l) : Mid2 we we lo hi g base v1 v1 vr va vb s l := ⟨Kp.refl _ _, hO, hE, .inl rfl⟩
theorem Mid2.app {we wf : World} {lo hi g base : Nat} {v1 v vr va vb : Value} {s : Ms} {l : List Ev} (kf : Kp (fun k => v1.ownBlock = some k) we wf) (a : v.ownBlock = v1.ownBlock ∨ ∀ b, v.ownBlock = some b → we.heap.size ≤ b) (hO : MachH we lo hi g vr va vb s.r s.v s.a) (off : ∀ b, v1.ownBlock = some b → b < lo ∨ hi ≤ b ∨ b = g)
    (hE : OwnF 2 encE wf base 68 v l) : Mid2 we wf lo hi g base v1 v vr va vb s l := ⟨kf.mono fun _ _ e => .inr e, hO.kp kf off, hE, a⟩
theorem Mid2.set {we wf : World} {lo hi g base b o : Nat} {v1 v vr va vb u : Value} {s : Ms} {l : List Ev} (kf : Kp (fun k => v1.ownBlock = some k) we wf) (a : v.ownBlock = v1.ownBlock ∨ ∀ b, v.ownBlock = some b → we.heap.size ≤ b) (off : ∀ b, v1.ownBlock = some b → b < lo ∨ hi ≤ b ∨ b = g) (hh : hi ≤ we.heap.size)
    (hE : OwnF 2 encE wf base 68 v l) (h1 : lo ≤ b) (h2 : b < hi) (h3 : b ≠ g) (hO : MachH (wf.setCell ⟨b, o, none⟩ u) lo hi g vr va vb s.r s.v s.a) : Mid2 we (wf.setCell ⟨b, o, none⟩ u) lo hi g base v1 v vr va vb s l := by
  have ks : Kp (fun k => k = b) wf (wf.setCell ⟨b, o, none⟩ u) := (Kp.refl (fun k => k = b) wf).setCell (p := ⟨b, o, none⟩) (.inl rfl) _
  refine ⟨(kf.mono fun _ _ e => .inr e).trans (ks.mono fun k _ e => by subst e; exact .inl ⟨h1, h2, h3⟩), hO, hE.kp ks fun c hc e => ?_, a⟩
  subst e
  rcases a with h | h
  · have := off _ (h ▸ hc); omega
  · have := h _ hc; omega
theorem Mid2.drew {we wz : World} {lo hi g base : Nat} {v1 v vr va vb : Value} {s : Ms} {l : List Ev} (h : Mid2 we wz lo hi g base v1 v vr va vb s l) : Mid2 we wz.drew lo hi g base v1 v vr va vb s l :=
  ⟨h.k.drew, h.o.kp ((Kp.refl (fun _ => False) wz).drew) (fun _ f => f.elim), h.e.new ((Kp.refl _ _).drew), h.a⟩
/-- what one step of the reference leaves -/
def PostX (w : World) (lo hi g base : Nat) (tv vr va vb : Value) (s : Ms) (l : List Ev) (e : Ending) (w' : World) : Prop := ∃ v, e = .returned (.tuple #[.agg #[.int .i64 s.pc, vr, va, vb], v]) ∧ Kp (fun k => lo ≤ k ∧ k < hi ∧ k ≠ g ∨ tv.ownBlock = some k) w w' ∧ MachH w' lo hi g vr va vb s.r s.v s.a ∧ OwnF 2 encE w' base 68 v l ∧ ∀ b, v.ownBlock = some b → tv.ownBlock = some b ∨ w.heap.size ≤ b
end Go.Proofs.Ytbicpkmlionldaa.StepH
