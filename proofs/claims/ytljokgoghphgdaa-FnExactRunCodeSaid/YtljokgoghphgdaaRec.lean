/- Readings of memories, machines and codes as one fact each, and the laws' comparisons of equals. No conditions. -/
import Derived.Test.YtljokgoghphgdaaMarkC
import Derived.Test.YtljokgoghphgdaaMemF
import Derived.Test.YtljokgoghphgdaaMachF
import Derived.Test.YtljokgoghphgdaaCodeF
namespace Go.Proofs.Ytljokgoghphgdaa.Rec
open Go.RowKit Kit
set_option linter.unusedVariables false
def MemR (w : World) (lo hi : Nat) (va vb : Value) (ya : List Int) (yb : List (List Int)) : Prop := IntsR w lo hi va ya ∧ MatR w lo hi vb yb
theorem MemR.kp {w w' : World} {lo hi : Nat} {va vb : Value} {ya : List Int} {yb : List (List Int)} (h : MemR w lo hi va vb ya yb) {S : Nat → Prop} (k : Kp S w w') (hh : hi ≤ w.heap.size) (hs : ∀ b, S b → b < lo ∨ hi ≤ b) : MemR w' lo hi va vb ya yb := ⟨h.1.kp k hh hs, h.2.kp k hh hs⟩
theorem MemR.new {w w' : World} {lo hi : Nat} {va vb : Value} {ya : List Int} {yb : List (List Int)} (h : MemR w lo hi va vb ya yb) (hh : hi ≤ w.heap.size) (k : New w w') : MemR w' lo hi va vb ya yb := ⟨h.1.new hh k, h.2.new hh k⟩
theorem MemR.mono {w : World} {lo hi lo' hi' : Nat} {va vb : Value} {ya : List Int} {yb : List (List Int)} (h : MemR w lo hi va vb ya yb) (h1 : lo' ≤ lo) (h2 : hi ≤ hi') : MemR w lo' hi' va vb ya yb := ⟨h.1.mono h1 h2, h.2.mono h1 h2⟩
theorem MemR.lens {w : World} {lo hi : Nat} {va vb : Value} {ya : List Int} {yb : List (List Int)} (h : MemR w lo hi va vb ya yb) : (∃ a d, va = .slice a ya.length d) ∧ ∃ a d, vb = .slice a yb.length d := by
  obtain ⟨a, d, e, _⟩ := h.1.len
  obtain ⟨a', d', e', _⟩ := h.2.len
  exact ⟨⟨a, d, e⟩, a', d', e'⟩
def MachR (w : World) (lo hi : Nat) (vr va vb : Value) (yr ya : List Int) (yb : List (List Int)) : Prop := IntsR w lo hi vr yr ∧ IntsR w lo hi va ya ∧ MatR w lo hi vb yb
theorem MachR.kp {w w' : World} {lo hi : Nat} {vr va vb : Value} {yr ya : List Int} {yb : List (List Int)} (h : MachR w lo hi vr va vb yr ya yb) {S : Nat → Prop} (k : Kp S w w') (hh : hi ≤ w.heap.size) (hs : ∀ b, S b → b < lo ∨ hi ≤ b) : MachR w' lo hi vr va vb yr ya yb := ⟨h.1.kp k hh hs, h.2.1.kp k hh hs, h.2.2.kp k hh hs⟩
theorem MachR.new {w w' : World} {lo hi : Nat} {vr va vb : Value} {yr ya : List Int} {yb : List (List Int)} (h : MachR w lo hi vr va vb yr ya yb) (hh : hi ≤ w.heap.size) (k : New w w') : MachR w' lo hi vr va vb yr ya yb := ⟨h.1.new hh k, h.2.1.new hh k, h.2.2.new hh k⟩
theorem MachR.mono {w : World} {lo hi lo' hi' : Nat} {vr va vb : Value} {yr ya : List Int} {yb : List (List Int)} (h : MachR w lo hi vr va vb yr ya yb) (h1 : lo' ≤ lo) (h2 : hi ≤ hi') : MachR w lo' hi' vr va vb yr ya yb := ⟨h.1.mono h1 h2, h.2.1.mono h1 h2, h.2.2.mono h1 h2⟩
theorem MachR.lens {w : World} {lo hi : Nat} {vr va vb : Value} {yr ya : List Int} {yb : List (List Int)} (h : MachR w lo hi vr va vb yr ya yb) : (∃ a d, vr = .slice a yr.length d) ∧ (∃ a d, va = .slice a ya.length d) ∧ ∃ a d, vb = .slice a yb.length d := by
  obtain ⟨a, d, e, _⟩ := h.1.len
  obtain ⟨a', d', e', _⟩ := h.2.1.len
  obtain ⟨a2, d2, e2, _⟩ := h.2.2.len
  exact ⟨⟨a, d, e⟩, ⟨a', d', e'⟩, a2, d2, e2⟩
def CodeR (w : World) (lo hi : Nat) (va vb vc : Value) (xa xb : List Int) (x : List Ins) : Prop := IntsR w lo hi va xa ∧ IntsR w lo hi vb xb ∧ InssR w lo hi vc x
theorem CodeR.kp {w w' : World} {lo hi : Nat} {va vb vc : Value} {xa xb : List Int} {x : List Ins} (h : CodeR w lo hi va vb vc xa xb x) {S : Nat → Prop} (k : Kp S w w') (hh : hi ≤ w.heap.size) (hs : ∀ b, S b → b < lo ∨ hi ≤ b) : CodeR w' lo hi va vb vc xa xb x := ⟨h.1.kp k hh hs, h.2.1.kp k hh hs, h.2.2.kp k hh hs⟩
theorem CodeR.new {w w' : World} {lo hi : Nat} {va vb vc : Value} {xa xb : List Int} {x : List Ins} (h : CodeR w lo hi va vb vc xa xb x) (hh : hi ≤ w.heap.size) (k : New w w') : CodeR w' lo hi va vb vc xa xb x := ⟨h.1.new hh k, h.2.1.new hh k, h.2.2.new hh k⟩
theorem CodeR.lens {w : World} {lo hi : Nat} {va vb vc : Value} {xa xb : List Int} {x : List Ins} (h : CodeR w lo hi va vb vc xa xb x) : (∃ a d, va = .slice a xa.length d) ∧ (∃ a d, vb = .slice a xb.length d) ∧ ∃ a d, vc = .slice a x.length d := by
  obtain ⟨a, d, e, _⟩ := h.1.len
  obtain ⟨a', d', e', _⟩ := h.2.1.len
  obtain ⟨a2, d2, e2, _⟩ := h.2.2.len
  exact ⟨⟨a, d, e⟩, ⟨a', d', e'⟩, a2, d2, e2⟩
theorem _root_.Go.Proofs.Ytljokgoghphgdaa.MarkC.MemO.toR {w : World} {lo hi : Nat} {va vb : Value} {ya : List Int} {yb : List (List Int)} (h : MarkC.MemO w lo hi va vb ya yb) : MemR w lo hi va vb ya yb := h.reads
theorem _root_.Go.Proofs.Ytljokgoghphgdaa.MarkC.MachO.toR {w : World} {lo hi : Nat} {vr va vb : Value} {yr ya : List Int} {yb : List (List Int)} (h : MarkC.MachO w lo hi vr va vb yr ya yb) : MachR w lo hi vr va vb yr ya yb := h.reads
theorem _root_.Go.Proofs.Ytljokgoghphgdaa.MarkC.CodeO.toR {w : World} {lo hi : Nat} {va vb vc : Value} {xa xb : List Int} {x : List Ins} (h : MarkC.CodeO w lo hi va vb vc xa xb x) : CodeR w lo hi va vb vc xa xb x := by
  obtain ⟨m1, m2, q1, q2, q3, A, B, C⟩ := h
  exact ⟨A.reads.mono (Nat.le_refl _) (by omega), B.reads.mono (by omega) (by omega), C.reads.mono (by omega) (Nat.le_refl _)⟩
theorem _root_.Go.Proofs.Ytljokgoghphgdaa.MarkC.CodeO.kp {w w' : World} {lo hi : Nat} {va vb vc : Value} {xa xb : List Int} {x : List Ins} (h : MarkC.CodeO w lo hi va vb vc xa xb x) {S : Nat → Prop} (k : Kp S w w') (hs : ∀ b, S b → b < lo ∨ hi ≤ b) : MarkC.CodeO w' lo hi va vb vc xa xb x := by
  obtain ⟨m1, m2, q1, q2, q3, A, B, C⟩ := h
  exact ⟨m1, m2, q1, q2, q3, A.kp k (fun b e => by have := hs b e; omega), B.kp k (fun b e => by have := hs b e; omega), C.kp k (fun b e => by have := hs b e; omega)⟩
theorem _root_.Go.Proofs.Ytljokgoghphgdaa.MarkC.CodeO.new {w w' : World} {lo hi : Nat} {va vb vc : Value} {xa xb : List Int} {x : List Ins} (h : MarkC.CodeO w lo hi va vb vc xa xb x) (hh : hi ≤ w.heap.size) (k : New w w') : MarkC.CodeO w' lo hi va vb vc xa xb x := h.kp k (fun _ f => f.elim)
theorem eqMachine {w : World} {lo hi lo' hi' : Nat} {pc : Int} {mr ma mb nr na nb : Value} {xr xa : List Int} {xb : List (List Int)} (r : MachR w lo hi mr ma mb xr xa xb) (s : MachR w lo' hi' nr na nb xr xa xb) (h1 : hi ≤ w.heap.size) (h2 : hi' ≤ w.heap.size) :
    Calls Try.prog 34 #[.agg #[.int .i64 pc, mr, ma, mb], .agg #[.int .i64 pc, nr, na, nb]] w fun e w' => e = .returned (.bool true) ∧ New w w' := MachF.eqMachine1 w lo hi lo' hi' pc _ _ _ _ _ _ _ _ _ r.1 r.2.1 r.2.2 s.1 s.2.1 s.2.2 h1 h2
theorem eqMemory {w : World} {lo hi lo' hi' : Nat} {ma mb na nb : Value} {xa : List Int} {xb : List (List Int)} (r : MemR w lo hi ma mb xa xb) (s : MemR w lo' hi' na nb xa xb) (h1 : hi ≤ w.heap.size) (h2 : hi' ≤ w.heap.size) :
    Calls Try.prog 36 #[.agg #[ma, mb], .agg #[na, nb]] w fun e w' => e = .returned (.bool true) ∧ New w w' := MemF.eqMemory1 w lo hi lo' hi' _ _ _ _ _ _ r.1 r.2 s.1 s.2 h1 h2
theorem eqCode {w : World} {lo hi lo' hi' : Nat} {ta tb tc ua ub uc : Value} {xa xb : List Int} {x : List Ins} (r : CodeR w lo hi ta tb tc xa xb x) (s : CodeR w lo' hi' ua ub uc xa xb x) (h1 : hi ≤ w.heap.size) (h2 : hi' ≤ w.heap.size) :
    Calls Try.prog 35 #[.agg #[ta, tb, tc], .agg #[ua, ub, uc]] w fun e w' => e = .returned (.bool true) ∧ New w w' := CodeF.eqCode1 w lo hi lo' hi' _ _ _ _ _ _ _ _ _ r.1 r.2.1 r.2.2 s.1 s.2.1 s.2.2 h1 h2
theorem lt_alloc (w : World) (o : Obj) : w.heap.size < (w.alloc o).heap.size := by simp
/-- a list, or none of it -/
def pk {α : Type} (t : Bool) (l : List α) : List α := if t then l else []
theorem pk_len {α : Type} (t : Bool) (l : List α) : (pk t l).length ≤ l.length := by cases t <;> simp [pk]
theorem pk_msz (t : Bool) (l : List (List Int)) : msz (pk t l) ≤ msz l := by cases t <;> simp [pk, msz]
end Go.Proofs.Ytljokgoghphgdaa.Rec
