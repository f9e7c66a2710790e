/- mark and held of the laws, for memories, machines and codes of the call's own. Condition: at most 2^20 elements and rows. -/
import Derived.Test.YtljokgoghphgdaaMarkM
import Derived.WalkKit
import Derived.ProofKit
namespace Go.Proofs.Ytljokgoghphgdaa.MarkC
open Go.RowKit Kit
set_option linter.unusedVariables false
def MemO (w : World) (lo hi : Nat) (va vb : Value) (ya : List Int) (yb : List (List Int)) : Prop := ∃ mid, lo ≤ mid ∧ mid ≤ hi ∧ OwnR 1 encI w lo mid 3 va ya ∧ MatO w mid hi 23 3 vb yb
theorem MemO.kp {w w' : World} {lo hi : Nat} {va vb : Value} {ya : List Int} {yb : List (List Int)} (h : MemO w lo hi va vb ya yb) {S : Nat → Prop} (k : Kp S w w') (hs : ∀ b, S b → b < lo ∨ hi ≤ b) : MemO w' lo hi va vb ya yb := by
  obtain ⟨mid, q1, q2, h1, h2⟩ := h
  exact ⟨mid, q1, q2, h1.kp k (fun b hb => by have := hs b hb; omega), h2.kp k (fun b hb => by have := hs b hb; omega)⟩
theorem MemO.new {w w' : World} {lo hi : Nat} {va vb : Value} {ya : List Int} {yb : List (List Int)} (h : MemO w lo hi va vb ya yb) (hh : hi ≤ w.heap.size) (k : New w w') : MemO w' lo hi va vb ya yb := h.kp k (fun _ f => f.elim)
theorem MemO.mono {w : World} {lo hi lo' hi' : Nat} {va vb : Value} {ya : List Int} {yb : List (List Int)} (h : MemO w lo hi va vb ya yb) (h1 : lo' ≤ lo) (h2 : hi ≤ hi') : MemO w lo' hi' va vb ya yb := by
  obtain ⟨mid, q1, q2, r1, r2⟩ := h
  exact ⟨mid, by omega, by omega, r1.mono h1 (Nat.le_refl _), r2.mono (Nat.le_refl _) h2⟩
set_option maxHeartbeats 2000000 in
theorem markMemory (w : World) (lo hi : Nat) (va vb : Value) (ya : List Int) (yb : List (List Int)) (k : Int) (h : MemO w lo hi va vb ya yb) (m0 : ya.length ≤ 1048576) (m1 : msz yb ≤ 1048576) (hk0 : 0 ≤ k) (hk1 : k ≤ 1099500000000) (hh : hi ≤ w.heap.size) :
    Calls Try.prog 38 #[.agg #[va, vb], .int .i64 k] w fun e w' => e = .returned (.int .i64 (k + (ya.length : Int) + (tot yb : Int))) ∧ Kp (fun b => lo ≤ b ∧ b < hi) w w' ∧ MemO w' lo hi va vb (marksI k ya.length) (marksM (k + (ya.length : Int)) yb) := by
  obtain ⟨mid, q1, q2, A, B⟩ := h
  obtain ⟨a1, d1, rfl, l1⟩ := A.reads.len
  obtain ⟨a2, d2, rfl, l2⟩ := B.reads.len
  go_enter Try.func38, Try.ntmps38
  go_wp2_with fail
  have N0 : Kp (fun b => lo ≤ b ∧ b < hi) w (w.alloc (.cells #[.slice a1 ya.length d1, .slice a2 yb.length d2] 29)) := (Kp.refl _ _).alloc _
  have n0 : New w (w.alloc (.cells #[.slice a1 ya.length d1, .slice a2 yb.length d2] 29)) := (Kp.refl _ _).alloc _
  have z0 : w.heap.size < (w.alloc (.cells #[.slice a1 ya.length d1, .slice a2 yb.length d2] 29)).heap.size := by simp
  have bA_0 : (w.alloc (.cells #[.slice a1 ya.length d1, .slice a2 yb.length d2] 29)).heap[w.heap.size]? = some (.cells #[.slice a1 ya.length d1, .slice a2 yb.length d2] 29) := alloc_heap _ _
  have A_0 := A.new (by omega) n0
  have B_0 := B.new (by omega) n0
  clear n0 A B
  generalize (w.alloc (.cells #[.slice a1 ya.length d1, .slice a2 yb.length d2] 29)) = w0 at *
  refine (LawF.markIntS _ _ _ _ k A_0.own hk0 (by omega) (by omega)).mono ?_
  rintro e w1 ⟨rfl, hk1, A_1⟩
  replace A_1 : OwnR 1 encI w1 lo mid 3 _ _ := ⟨A_1, A_0.top⟩
  have k1 : Kp (fun b => lo ≤ b ∧ b < mid) w0 w1 := hk1.mono fun b _ e => ⟨(A_0.own.lt b e).1, A_0.top b e⟩
  have z1 : w0.heap.size ≤ w1.heap.size := k1.size
  have N1 : Kp (fun b => lo ≤ b ∧ b < hi) w w1 := N0.trans (k1.mono fun b _ e => ⟨by omega, by omega⟩)
  have bA_1 : w1.heap[w.heap.size]? = some (.cells #[.slice a1 ya.length d1, .slice a2 yb.length d2] 29) := (k1.block _ (by omega) (fun e => by omega)).trans bA_0
  have B_1 := B_0.kp k1 (fun b e => by omega)
  clear hk1 k1 bA_0 A_0 B_0
  have c0_1 := cell_of_heap bA_1 0
  have c1_1 := cell_of_heap bA_1 1
  go_wp2_with fail
  clear c0_1 c1_1
  refine (MarkM.markIntSS _ _ _ _ _ (k + (ya.length : Int)) B_1 (by omega) (by omega) m1 (by omega)).mono ?_
  rintro e w2 ⟨rfl, hk2, B_2⟩
  have k2 : Kp (fun b => mid ≤ b ∧ b < hi) w1 w2 := hk2
  have z2 : w1.heap.size ≤ w2.heap.size := k2.size
  have N2 : Kp (fun b => lo ≤ b ∧ b < hi) w w2 := N1.trans (k2.mono fun b _ e => ⟨by omega, by omega⟩)
  have bA_2 : w2.heap[w.heap.size]? = some (.cells #[.slice a1 ya.length d1, .slice a2 yb.length d2] 29) := (k2.block _ (by omega) (fun e => by omega)).trans bA_1
  have A_2 := A_1.kp k2 (fun b e => by omega)
  clear hk2 k2 bA_1 A_1 B_1
  have c0_2 := cell_of_heap bA_2 0
  have c1_2 := cell_of_heap bA_2 1
  go_wp2
  go_ret
  exact ⟨rfl, N2, mid, q1, q2, A_2, B_2⟩
/-- the registers and the memory, in ranges of blocks that are apart -/
def MachO (w : World) (lo hi : Nat) (vr va vb : Value) (yr ya : List Int) (yb : List (List Int)) : Prop := ∃ p1 p2 p3 p4, lo ≤ p1 ∧ p2 ≤ hi ∧ lo ≤ p3 ∧ p4 ≤ hi ∧ (p2 ≤ p3 ∨ p4 ≤ p1) ∧ OwnR 1 encI w p1 p2 3 vr yr ∧ MemO w p3 p4 va vb ya yb
theorem MachO.kp {w w' : World} {lo hi : Nat} {vr va vb : Value} {yr ya : List Int} {yb : List (List Int)} (h : MachO w lo hi vr va vb yr ya yb) {S : Nat → Prop} (k : Kp S w w') (hs : ∀ b, S b → b < lo ∨ hi ≤ b) : MachO w' lo hi vr va vb yr ya yb := by
  obtain ⟨p1, p2, p3, p4, q1, q2, q3, q4, q5, h1, h2⟩ := h
  exact ⟨p1, p2, p3, p4, q1, q2, q3, q4, q5, h1.kp k (fun b hb => by have := hs b hb; omega), h2.kp k (fun b hb => by have := hs b hb; omega)⟩
theorem MachO.new {w w' : World} {lo hi : Nat} {vr va vb : Value} {yr ya : List Int} {yb : List (List Int)} (h : MachO w lo hi vr va vb yr ya yb) (hh : hi ≤ w.heap.size) (k : New w w') : MachO w' lo hi vr va vb yr ya yb := h.kp k (fun _ f => f.elim)
theorem MachO.mono {w : World} {lo hi lo' hi' : Nat} {vr va vb : Value} {yr ya : List Int} {yb : List (List Int)} (h : MachO w lo hi vr va vb yr ya yb) (h1 : lo' ≤ lo) (h2 : hi ≤ hi') : MachO w lo' hi' vr va vb yr ya yb := by
  obtain ⟨p1, p2, p3, p4, q1, q2, q3, q4, q5, r1, r2⟩ := h
  exact ⟨p1, p2, p3, p4, by omega, by omega, by omega, by omega, q5, r1, r2⟩
theorem MemO.reads {w : World} {lo hi : Nat} {va vb : Value} {ya : List Int} {yb : List (List Int)} (h : MemO w lo hi va vb ya yb) : IntsR w lo hi va ya ∧ MatR w lo hi vb yb := by
  obtain ⟨mid, q1, q2, A, B⟩ := h
  exact ⟨A.reads.mono (Nat.le_refl _) q2, B.reads.mono q1 (Nat.le_refl _)⟩
theorem MachO.reads {w : World} {lo hi : Nat} {vr va vb : Value} {yr ya : List Int} {yb : List (List Int)} (h : MachO w lo hi vr va vb yr ya yb) : IntsR w lo hi vr yr ∧ IntsR w lo hi va ya ∧ MatR w lo hi vb yb := by
  obtain ⟨p1, p2, p3, p4, q1, q2, q3, q4, q5, A, B⟩ := h
  exact ⟨A.reads.mono q1 q2, B.reads.1.mono q3 q4, B.reads.2.mono q3 q4⟩
theorem MemO.lens {w : World} {lo hi : Nat} {va vb : Value} {ya : List Int} {yb : List (List Int)} (h : MemO w lo hi va vb ya yb) : (∃ a d, va = .slice a ya.length d) ∧ ∃ a d, vb = .slice a yb.length d := by
  obtain ⟨mid, q1, q2, A, B⟩ := h
  obtain ⟨a1, d1, rfl, l1⟩ := A.reads.len
  obtain ⟨a2, d2, rfl, l2⟩ := B.reads.len
  exact ⟨⟨_, _, rfl⟩, _, _, rfl⟩
set_option maxHeartbeats 2000000 in
theorem markMachine (w : World) (lo hi : Nat) (pc : Int) (vr va vb : Value) (yr ya : List Int) (yb : List (List Int)) (k : Int) (h : MachO w lo hi vr va vb yr ya yb) (mr : yr.length ≤ 1048576) (m0 : ya.length ≤ 1048576) (m1 : msz yb ≤ 1048576) (hk0 : 0 ≤ k) (hk1 : k ≤ 1099490000000) (hh : hi ≤ w.heap.size) :
    Calls Try.prog 39 #[.agg #[.int .i64 pc, vr, va, vb], .int .i64 k] w fun e w' => e = .returned (.int .i64 (k + (yr.length : Int) + (ya.length : Int) + (tot yb : Int))) ∧ Kp (fun b => lo ≤ b ∧ b < hi) w w' ∧ MachO w' lo hi vr va vb (marksI k yr.length) (marksI (k + (yr.length : Int)) ya.length) (marksM (k + (yr.length : Int) + (ya.length : Int)) yb) := by
  obtain ⟨p1, p2, p3, p4, q1, q2, q3, q4, q5, A, B⟩ := h
  obtain ⟨a1, d1, rfl, l1⟩ := A.reads.len
  obtain ⟨⟨a2, d2, rfl⟩, a3, d3, rfl⟩ := B.lens
  go_enter Try.func39, Try.ntmps39
  go_wp2_with fail
  have N0 : Kp (fun b => lo ≤ b ∧ b < hi) w (w.alloc (.cells #[.int .i64 pc, .slice a1 yr.length d1, .slice a2 ya.length d2, .slice a3 yb.length d3] 31)) := (Kp.refl _ _).alloc _
  have n0 : New w (w.alloc (.cells #[.int .i64 pc, .slice a1 yr.length d1, .slice a2 ya.length d2, .slice a3 yb.length d3] 31)) := (Kp.refl _ _).alloc _
  have z0 : w.heap.size < (w.alloc (.cells #[.int .i64 pc, .slice a1 yr.length d1, .slice a2 ya.length d2, .slice a3 yb.length d3] 31)).heap.size := by simp
  have bA_0 : (w.alloc (.cells #[.int .i64 pc, .slice a1 yr.length d1, .slice a2 ya.length d2, .slice a3 yb.length d3] 31)).heap[w.heap.size]? = some (.cells #[.int .i64 pc, .slice a1 yr.length d1, .slice a2 ya.length d2, .slice a3 yb.length d3] 31) := alloc_heap _ _
  have A_0 := A.new (by omega) n0
  have B_0 := B.new (by omega) n0
  clear n0 A B
  generalize (w.alloc (.cells #[.int .i64 pc, .slice a1 yr.length d1, .slice a2 ya.length d2, .slice a3 yb.length d3] 31)) = w0 at *
  refine (LawF.markIntS _ _ _ _ k A_0.own hk0 (by omega) (by omega)).mono ?_
  rintro e w1 ⟨rfl, hk1, A_1⟩
  replace A_1 : OwnR 1 encI w1 p1 p2 3 _ _ := ⟨A_1, A_0.top⟩
  have k1 : Kp (fun b => p1 ≤ b ∧ b < p2) w0 w1 := hk1.mono fun b _ e => ⟨(A_0.own.lt b e).1, A_0.top b e⟩
  have z1 : w0.heap.size ≤ w1.heap.size := k1.size
  have N1 : Kp (fun b => lo ≤ b ∧ b < hi) w w1 := N0.trans (k1.mono fun b _ e => ⟨by omega, by omega⟩)
  have bA_1 : w1.heap[w.heap.size]? = some (.cells #[.int .i64 pc, .slice a1 yr.length d1, .slice a2 ya.length d2, .slice a3 yb.length d3] 31) := (k1.block _ (by omega) (fun e => by omega)).trans bA_0
  have B_1 := B_0.kp k1 (fun b e => by omega)
  clear hk1 k1 bA_0 A_0 B_0
  have c0_1 := cell_of_heap bA_1 0
  have c1_1 := cell_of_heap bA_1 1
  have c2_1 := cell_of_heap bA_1 2
  have c3_1 := cell_of_heap bA_1 3
  go_wp2_with fail
  clear c0_1 c1_1 c2_1 c3_1
  refine (markMemory _ _ _ _ _ _ _ (k + (yr.length : Int)) B_1 m0 m1 (by omega) (by omega) (by omega)).mono ?_
  rintro e w2 ⟨rfl, hk2, B_2⟩
  have k2 : Kp (fun b => p3 ≤ b ∧ b < p4) w1 w2 := hk2
  have z2 : w1.heap.size ≤ w2.heap.size := k2.size
  have N2 : Kp (fun b => lo ≤ b ∧ b < hi) w w2 := N1.trans (k2.mono fun b _ e => ⟨by omega, by omega⟩)
  have bA_2 : w2.heap[w.heap.size]? = some (.cells #[.int .i64 pc, .slice a1 yr.length d1, .slice a2 ya.length d2, .slice a3 yb.length d3] 31) := (k2.block _ (by omega) (fun e => by omega)).trans bA_1
  have A_2 := A_1.kp k2 (fun b e => by omega)
  clear hk2 k2 bA_1 A_1 B_1
  have c0_2 := cell_of_heap bA_2 0
  have c1_2 := cell_of_heap bA_2 1
  have c2_2 := cell_of_heap bA_2 2
  have c3_2 := cell_of_heap bA_2 3
  go_wp2
  go_ret
  exact ⟨rfl, N2, p1, p2, p3, p4, q1, q2, q3, q4, q5, A_2, B_2⟩
def CodeO (w : World) (lo hi : Nat) (va vb vc : Value) (xa xb : List Int) (x : List Ins) : Prop := ∃ m1 m2, lo ≤ m1 ∧ m1 ≤ m2 ∧ m2 ≤ hi ∧ OwnR 1 encI w lo m1 3 va xa ∧ OwnR 1 encI w m1 m2 3 vb xb ∧ OwnR 5 encN w m2 hi 44 vc x
set_option maxHeartbeats 2000000 in
theorem markCode (w : World) (lo hi : Nat) (va vb vc : Value) (xa xb : List Int) (x : List Ins) (k : Int) (h : CodeO w lo hi va vb vc xa xb x) (m0 : xa.length ≤ 1048576) (m1 : xb.length ≤ 1048576) (m2 : x.length ≤ 1048576) (hk0 : 0 ≤ k) (hk1 : k ≤ 1099500000000) (hh : hi ≤ w.heap.size) :
    Calls Try.prog 37 #[.agg #[va, vb, vc], .int .i64 k] w fun e w' => e = .returned (.int .i64 (k + (xa.length : Int) + (xb.length : Int) + 5 * (x.length : Int))) ∧ Kp (fun b => lo ≤ b ∧ b < hi) w w' := by
  obtain ⟨p1, p2, q1, q2, q3, A, B, C⟩ := h
  obtain ⟨a1, d1, rfl, l1⟩ := A.reads.len
  obtain ⟨a2, d2, rfl, l2⟩ := B.reads.len
  obtain ⟨a3, d3, rfl, l3⟩ := C.reads.len
  go_enter Try.func37, Try.ntmps37
  go_wp2_with fail
  have N0 : Kp (fun b => lo ≤ b ∧ b < hi) w (w.alloc (.cells #[.slice a1 xa.length d1, .slice a2 xb.length d2, .slice a3 x.length d3] 26)) := (Kp.refl _ _).alloc _
  have n0 : New w (w.alloc (.cells #[.slice a1 xa.length d1, .slice a2 xb.length d2, .slice a3 x.length d3] 26)) := (Kp.refl _ _).alloc _
  have z0 : w.heap.size < (w.alloc (.cells #[.slice a1 xa.length d1, .slice a2 xb.length d2, .slice a3 x.length d3] 26)).heap.size := by simp
  have bA_0 : (w.alloc (.cells #[.slice a1 xa.length d1, .slice a2 xb.length d2, .slice a3 x.length d3] 26)).heap[w.heap.size]? = some (.cells #[.slice a1 xa.length d1, .slice a2 xb.length d2, .slice a3 x.length d3] 26) := alloc_heap _ _
  have A_0 := A.new (by omega) n0
  have B_0 := B.new (by omega) n0
  have C_0 := C.new (by omega) n0
  clear n0 A B C
  generalize (w.alloc (.cells #[.slice a1 xa.length d1, .slice a2 xb.length d2, .slice a3 x.length d3] 26)) = w0 at *
  refine (LawF.markIntS _ _ _ _ k A_0.own hk0 (by omega) (by omega)).mono ?_
  rintro e w1 ⟨rfl, hk1, A_1⟩
  replace A_1 : OwnR 1 encI w1 lo p1 3 _ _ := ⟨A_1, A_0.top⟩
  have k1 : Kp (fun b => lo ≤ b ∧ b < p1) w0 w1 := hk1.mono fun b _ e => ⟨(A_0.own.lt b e).1, A_0.top b e⟩
  have z1 : w0.heap.size ≤ w1.heap.size := k1.size
  have N1 : Kp (fun b => lo ≤ b ∧ b < hi) w w1 := N0.trans (k1.mono fun b _ e => ⟨by omega, by omega⟩)
  have bA_1 : w1.heap[w.heap.size]? = some (.cells #[.slice a1 xa.length d1, .slice a2 xb.length d2, .slice a3 x.length d3] 26) := (k1.block _ (by omega) (fun e => by omega)).trans bA_0
  have B_1 := B_0.kp k1 (fun b e => by omega)
  have C_1 := C_0.kp k1 (fun b e => by omega)
  clear hk1 k1 bA_0 A_0 B_0 C_0
  have c0_1 := cell_of_heap bA_1 0
  have c1_1 := cell_of_heap bA_1 1
  have c2_1 := cell_of_heap bA_1 2
  go_wp2_with fail
  clear c0_1 c1_1 c2_1
  refine (LawF.markIntS _ _ _ _ (k + (xa.length : Int)) B_1.own (by omega) (by omega) (by omega)).mono ?_
  rintro e w2 ⟨rfl, hk2, B_2⟩
  replace B_2 : OwnR 1 encI w2 p1 p2 3 _ _ := ⟨B_2, B_1.top⟩
  have k2 : Kp (fun b => p1 ≤ b ∧ b < p2) w1 w2 := hk2.mono fun b _ e => ⟨(B_1.own.lt b e).1, B_1.top b e⟩
  have z2 : w1.heap.size ≤ w2.heap.size := k2.size
  have N2 : Kp (fun b => lo ≤ b ∧ b < hi) w w2 := N1.trans (k2.mono fun b _ e => ⟨by omega, by omega⟩)
  have bA_2 : w2.heap[w.heap.size]? = some (.cells #[.slice a1 xa.length d1, .slice a2 xb.length d2, .slice a3 x.length d3] 26) := (k2.block _ (by omega) (fun e => by omega)).trans bA_1
  have A_2 := A_1.kp k2 (fun b e => by omega)
  have C_2 := C_1.kp k2 (fun b e => by omega)
  clear hk2 k2 bA_1 A_1 B_1 C_1
  have c0_2 := cell_of_heap bA_2 0
  have c1_2 := cell_of_heap bA_2 1
  have c2_2 := cell_of_heap bA_2 2
  go_wp2_with fail
  clear c0_2 c1_2 c2_2
  refine (LawF.markInstrS _ _ _ _ (k + (xa.length : Int) + (xb.length : Int)) C_2.own (by omega) (by omega) (by omega)).mono ?_
  rintro e w3 ⟨rfl, hk3, C_3⟩
  replace C_3 : OwnR 5 encN w3 p2 hi 44 _ _ := ⟨C_3, C_2.top⟩
  have k3 : Kp (fun b => p2 ≤ b ∧ b < hi) w2 w3 := hk3.mono fun b _ e => ⟨(C_2.own.lt b e).1, C_2.top b e⟩
  have z3 : w2.heap.size ≤ w3.heap.size := k3.size
  have N3 : Kp (fun b => lo ≤ b ∧ b < hi) w w3 := N2.trans (k3.mono fun b _ e => ⟨by omega, by omega⟩)
  have bA_3 : w3.heap[w.heap.size]? = some (.cells #[.slice a1 xa.length d1, .slice a2 xb.length d2, .slice a3 x.length d3] 26) := (k3.block _ (by omega) (fun e => by omega)).trans bA_2
  have A_3 := A_2.kp k3 (fun b e => by omega)
  have B_3 := B_2.kp k3 (fun b e => by omega)
  clear hk3 k3 bA_2 A_2 B_2 C_2
  have c0_3 := cell_of_heap bA_3 0
  have c1_3 := cell_of_heap bA_3 1
  have c2_3 := cell_of_heap bA_3 2
  go_wp2
  go_ret
  exact ⟨rfl, N3⟩
set_option maxHeartbeats 2000000 in
theorem heldMemory (w : World) (lo hi : Nat) (va vb : Value) (m : Nat) (yb : List (List Int)) (k : Int) (sa : IntsR w lo hi va (marksI k m)) (sb : MatR w lo hi vb (marksM (k + (m : Int)) yb)) (m0 : m ≤ 1048576) (m1 : msz yb ≤ 1048576) (hk0 : 0 ≤ k) (hk1 : k ≤ 1099490000000) (hh : hi ≤ w.heap.size) :
    Calls Try.prog 43 #[.agg #[va, vb], .int .i64 k] w fun e w' => e = .returned (.int .i64 (k + (m : Int) + (tot yb : Int))) ∧ New w w' := by
  have t1 := tot_msz yb
  obtain ⟨a1, d1, rfl, l1⟩ := sa.len
  obtain ⟨a2, d2, rfl, l2⟩ := sb.len
  have e1 : (marksI k m).length = m := by simp [marksI]
  have e2 : (marksM (k + (m : Int)) yb).length = yb.length := mkTo_length _ _ _
  rw [e1] at sa ⊢
  rw [e2] at sb ⊢
  go_enter Try.func43, Try.ntmps43
  go_wp2_with fail
  have N0 : New w (w.alloc (.cells #[.slice a1 m d1, .slice a2 yb.length d2] 29)) := ((Kp.refl _ _).alloc _)
  have bA_0 : (w.alloc (.cells #[.slice a1 m d1, .slice a2 yb.length d2] 29)).heap[w.heap.size]? = some (.cells #[.slice a1 m d1, .slice a2 yb.length d2] 29) := alloc_heap _ _
  have z0 : w.heap.size < (w.alloc (.cells #[.slice a1 m d1, .slice a2 yb.length d2] 29)).heap.size := by simp
  generalize (w.alloc (.cells #[.slice a1 m d1, .slice a2 yb.length d2] 29)) = w0 at *
  have bA_0_c0 := cell_of_heap bA_0 0
  have bA_0_c1 := cell_of_heap bA_0 1
  have g1 : ¬ (k + (m : Int) < 0) := by omega
  have g1b : decide (k + (m : Int) < 0) = false := by rw [decide_eq_false_iff_not]; exact g1
  have g2 : ¬ (k + (m : Int) + (tot yb : Int) < 0) := by omega
  have g2b : decide (k + (m : Int) + (tot yb : Int) < 0) = false := by rw [decide_eq_false_iff_not]; exact g2
  refine (LawF.heldIntS _ _ _ _ m k (sa.new hh N0) hk0 (by omega) (by omega)).mono ?_
  rintro e w' ⟨rfl, rfl⟩
  go_wp2_with fail
  refine (MarkM.heldIntSS _ _ _ _ yb _ (sb.new hh N0) (by omega) (by omega) m1 (by omega)).mono ?_
  rintro e w' ⟨rfl, rfl⟩
  go_wp2
  go_ret
  exact ⟨rfl, N0⟩
set_option maxHeartbeats 2000000 in
theorem heldMachine (w : World) (lo hi : Nat) (pc : Int) (vr va vb : Value) (r m : Nat) (yb : List (List Int)) (k : Int) (sr : IntsR w lo hi vr (marksI k r)) (sa : IntsR w lo hi va (marksI (k + (r : Int)) m)) (sb : MatR w lo hi vb (marksM (k + (r : Int) + (m : Int)) yb)) (mr : r ≤ 1048576) (m0 : m ≤ 1048576) (m1 : msz yb ≤ 1048576) (hk0 : 0 ≤ k) (hk1 : k ≤ 1099480000000) (hh : hi ≤ w.heap.size) :
    Calls Try.prog 40 #[.agg #[.int .i64 pc, vr, va, vb], .int .i64 k] w fun e w' => e = .returned (.int .i64 (k + (r : Int) + (m : Int) + (tot yb : Int))) ∧ New w w' := by
  have t1 := tot_msz yb
  obtain ⟨a0, d0, rfl, l0⟩ := sr.len
  obtain ⟨a1, d1, rfl, l1⟩ := sa.len
  obtain ⟨a2, d2, rfl, l2⟩ := sb.len
  have e0 : (marksI k r).length = r := by simp [marksI]
  have e1 : (marksI (k + (r : Int)) m).length = m := by simp [marksI]
  have e2 : (marksM (k + (r : Int) + (m : Int)) yb).length = yb.length := mkTo_length _ _ _
  rw [e0] at sr ⊢
  rw [e1] at sa ⊢
  rw [e2] at sb ⊢
  go_enter Try.func40, Try.ntmps40
  go_wp2_with fail
  have N0 : New w (w.alloc (.cells #[.int .i64 pc, .slice a0 r d0, .slice a1 m d1, .slice a2 yb.length d2] 31)) := ((Kp.refl _ _).alloc _)
  have bA_0 : (w.alloc (.cells #[.int .i64 pc, .slice a0 r d0, .slice a1 m d1, .slice a2 yb.length d2] 31)).heap[w.heap.size]? = some (.cells #[.int .i64 pc, .slice a0 r d0, .slice a1 m d1, .slice a2 yb.length d2] 31) := alloc_heap _ _
  have z0 : w.heap.size < (w.alloc (.cells #[.int .i64 pc, .slice a0 r d0, .slice a1 m d1, .slice a2 yb.length d2] 31)).heap.size := by simp
  generalize (w.alloc (.cells #[.int .i64 pc, .slice a0 r d0, .slice a1 m d1, .slice a2 yb.length d2] 31)) = w0 at *
  have bA_0_c0 := cell_of_heap bA_0 0
  have bA_0_c1 := cell_of_heap bA_0 1
  have bA_0_c2 := cell_of_heap bA_0 2
  have bA_0_c3 := cell_of_heap bA_0 3
  have g1 : ¬ (k + (r : Int) < 0) := by omega
  have g1b : decide (k + (r : Int) < 0) = false := by rw [decide_eq_false_iff_not]; exact g1
  have g2 : ¬ (k + (r : Int) + (m : Int) + (tot yb : Int) < 0) := by omega
  have g2b : decide (k + (r : Int) + (m : Int) + (tot yb : Int) < 0) = false := by rw [decide_eq_false_iff_not]; exact g2
  refine (LawF.heldIntS _ _ _ _ r k (sr.new hh N0) hk0 (by omega) (by omega)).mono ?_
  rintro e w' ⟨rfl, rfl⟩
  go_wp2_with fail
  refine (heldMemory _ lo hi _ _ m yb _ (sa.new hh N0) (sb.new hh N0) m0 m1 (by omega) (by omega) (by omega)).mono ?_
  rintro e w1 ⟨rfl, hn1⟩
  have z1 : w0.heap.size ≤ w1.heap.size := hn1.size
  have N1 : New w w1 := N0.trans hn1
  have bA_1 := heap_new hn1 bA_0
  clear bA_0_c0 bA_0_c1 bA_0_c2 bA_0_c3
  clear bA_0 hn1
  have bA_1_c0 := cell_of_heap bA_1 0
  have bA_1_c1 := cell_of_heap bA_1 1
  have bA_1_c2 := cell_of_heap bA_1 2
  have bA_1_c3 := cell_of_heap bA_1 3
  go_wp2
  go_ret
  exact ⟨rfl, N1⟩
end Go.Proofs.Ytljokgoghphgdaa.MarkC
