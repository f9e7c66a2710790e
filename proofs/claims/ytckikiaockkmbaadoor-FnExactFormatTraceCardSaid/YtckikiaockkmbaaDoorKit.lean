/- Plain words for worlds: which blocks a call may have turned; small laws on them. No program in sight; no conditions. -/
import Derived.Below
import Derived.Deep.Draws
import Derived.Laws.MakeOwn
import Derived.OpenShut
import Derived.ChangeOld
import Derived.Deep.Heap
import Derived.IntWalk
import Derived.Lib.Hide
import Derived.WalkKit
import Derived.ProofKit
namespace Go.Proofs.YtckikiaockkmbaaDoor.Kit
open Go.RowKit

theorem retB {a b : Bool} (h : a = b) : Ending.returned (.bool a) = .returned (.bool b) := by rw [h]
theorem retI {k : IntKind} {a b : Int} (h : a = b) : Ending.returned (.int k a) = .returned (.int k b) := by rw [h]

/-- w' is w but for new blocks and for the old blocks of S -/
structure Kp (S : Nat → Prop) (w w' : World) : Prop where
  os : w'.os = w.os
  tape : w'.tape = w.tape
  output : w'.output = w.output
  size : w.heap.size ≤ w'.heap.size
  block : ∀ k, k < w.heap.size → ¬ S k → w'.heap[k]? = w.heap[k]?

namespace Kp
variable {S T : Nat → Prop} {a w w' w'' : World}
theorem refl (S : Nat → Prop) (w : World) : Kp S w w := ⟨rfl, rfl, rfl, Nat.le_refl _, fun _ _ _ => rfl⟩
theorem trans (h : Kp S w w') (k : Kp S w' w'') : Kp S w w'' :=
  ⟨k.os.trans h.os, k.tape.trans h.tape, k.output.trans h.output, Nat.le_trans h.size k.size, fun i hi hs => (k.block i (Nat.lt_of_lt_of_le hi h.size) hs).trans (h.block i hi hs)⟩
theorem mono (h : Kp S w w') (hs : ∀ k, k < w.heap.size → S k → T k) : Kp T w w' := ⟨h.os, h.tape, h.output, h.size, fun k hk ht => h.block k hk (fun s => ht (hs k hk s))⟩
theorem drew (h : Kp S a w) : Kp S a w.drew := ⟨h.os, h.tape, h.output, h.size, h.block⟩
theorem alloc (h : Kp S a w) (o : Obj) : Kp S a (w.alloc o) :=
  ⟨h.os, h.tape, h.output, by have := h.size; simp; omega, fun k hk hs => (Below.heap_alloc _ _ _ (by have := h.size; omega)).trans (h.block k hk hs)⟩
theorem setCell (h : Kp S a w) {p : Addr} (hp : S p.block ∨ a.heap.size ≤ p.block) (u : Value) : Kp S a (w.setCell p u) :=
  ⟨h.os, h.tape, h.output, by have := h.size; simp [World.setCell]; omega, fun k hk hs => (Below.heap_setCell _ _ _ _ (fun e => by rcases hp with hp | hp; exact hs (e ▸ hp); omega)).trans (h.block k hk hs)⟩
theorem grown (h : Kp S a w) {row : Option Nat} (hg : w.grownBy w' row) (hr : ∀ k, row = some k → S k ∨ a.heap.size ≤ k) : Kp S a w' :=
  ⟨hg.os.trans h.os, hg.tape.trans h.tape, hg.output.trans h.output, Nat.le_trans h.size hg.size, fun k hk hs =>
    (hg.block k (Nat.lt_of_lt_of_le hk h.size) (fun e => by rcases hr k e.symm with h1 | h1; exact hs h1; omega)).trans (h.block k hk hs)⟩
/-- what is turned lies from B on -/
theorem below (h : Kp S w w') {B : Nat} (hB : B ≤ w.heap.size) (hs : ∀ k, S k → B ≤ k) : Below B w w' :=
  ⟨h.os, h.tape, h.output, h.size, fun k hk => h.block k (by omega) (fun s => by have := hs k s; omega)⟩
theorem ofBelow (h : Below w.heap.size w w') : Kp S w w' := ⟨h.os, h.tape, h.output, h.size, fun k hk _ => h.block k hk⟩
theorem toBelow (h : Kp (fun _ => False) w w') : Below w.heap.size w w' := h.below (Nat.le_refl _) (fun _ h => h.elim)
theorem cell (h : Kp S w w') {b : Nat} (hb : b < w.heap.size) (hs : ¬ S b) (o : Nat) : w'.cell? ⟨b, o, none⟩ = w.cell? ⟨b, o, none⟩ := World.cell?_of_block (w := w) (h.block b hb hs)
theorem frozen (h : Kp S w w') {b : Nat} (hb : b < w.heap.size) (hs : ¬ S b) (o : Nat) : w'.frozen? ⟨b, o, none⟩ = w.frozen? ⟨b, o, none⟩ := World.frozen?_of_block (w := w) (h.block b hb hs)
end Kp

/-- nothing old is turned -/
abbrev New (w w' : World) : Prop := Kp (fun _ => False) w w'
/-- block b alone of the old ones is turned -/
abbrev One (b : Nat) (w w' : World) : Prop := Kp (fun k => k = b) w w'

theorem cell_lt {w : World} {b o : Nat} {v : Value} (h : w.cell? ⟨b, o, none⟩ = some v) : b < w.heap.size := World.block_lt_of_cell? w ⟨b, o, none⟩ h
theorem heap_lt {w : World} {b : Nat} {x : Obj} (h : w.heap[b]? = some x) : b < w.heap.size := (Array.getElem?_eq_some_iff.1 h).1
theorem cell_of_heap {w : World} {b : Nat} {cs : Array Value} {T : TypeId} {f : Nat × Nat} (h : w.heap[b]? = some (.cells cs T f)) (o : Nat) : w.cell? ⟨b, o, none⟩ = cs[o]? := by simp [World.cell?, h]
theorem frozen_of_heap {w : World} {b : Nat} {cs : Array Value} {T : TypeId} (h : w.heap[b]? = some (.cells cs T (0, 0))) (o : Nat) : w.frozen? ⟨b, o, none⟩ = false := by simp [World.frozen?, h]
theorem setCell_heap {w : World} {b o : Nat} {cs : Array Value} {T : TypeId} {f : Nat × Nat} (h : w.heap[b]? = some (.cells cs T f)) (v : Value) : (w.setCell ⟨b, o, none⟩ v).heap[b]? = some (.cells (cs.setIfInBounds o v) T f) := by
  simp [World.setCell, Array.getElem?_modify, h]
theorem alloc_heap (w : World) (x : Obj) : (w.alloc x).heap[w.heap.size]? = some x := heap_alloc_new w x
theorem heap_at {w : World} {x : Obj} {b : Nat} (h : w.heap.size = b) : (w.alloc x).heap[b]? = some x := by subst h; exact alloc_heap _ _
theorem heap_old {w : World} {x y : Obj} {b : Nat} (h : w.heap[b]? = some y) : (w.alloc x).heap[b]? = some y := (Below.heap_alloc w x b (heap_lt h)).trans h
theorem heap_new {w w' : World} (k : New w w') {b : Nat} {x : Obj} (h : w.heap[b]? = some x) : w'.heap[b]? = some x := (k.block b (heap_lt h) (fun f => f)).trans h
theorem drewN_kp (S : Nat → Prop) {a w : World} (n : Nat) (h : Kp S a w) : Kp S a (w.drewN n) := by
  induction n with
  | zero => exact h
  | succ n ih => exact ⟨ih.os, ih.tape, ih.output, ih.size, ih.block⟩
theorem drewN_heap (w : World) (n : Nat) : (w.drewN n).heap = w.heap := by
  induction n with
  | zero => rfl
  | succ n ih => exact ih

/-- the cells of a new row of n elements of 'size' cells -/
def mkCells (z : Value) (size n : Nat) : Array Value := madeCells z.cells (n * size)
theorem mkCells_size (z : Value) (size n : Nat) : (mkCells z size n).size = n * size := by simp [mkCells, size_madeCells]
theorem mkCells_some (z : Value) (size n j : Nat) (h : j < n * size) : ∃ v, (mkCells z size n)[j]? = some v := ⟨_, Array.getElem?_eq_getElem (by rw [mkCells_size]; exact h)⟩
theorem run_mk {P : Program} (t e : TypeId) (z : Value) (size bytes : Nat) (ht : P.underlying t = some (.slice e)) (hinfo : (P.info? e).map (fun i => (i.zero, i.size, i.bytes)) = some (some z, size, bytes))
    (n : Nat) (hb : bytes * n ≤ 281474976710656) (h63 : n ≤ 9223372036854775807) (w : World) :
    (Instr.makeSlice t (.int .i64 (n : Int)) (.int .i64 (n : Int))).run P w = .ok (.slice (some ⟨w.heap.size, 0, none⟩) n n) (w.alloc (.cells (mkCells z size n) e)) := by
  obtain ⟨i, hi, hzz⟩ := Option.map_eq_some_iff.1 hinfo
  simp only [Prod.mk.injEq] at hzz
  obtain ⟨hz, hs, hby⟩ := hzz
  have hb' : (i.bytes : Int) * (n : Int) ≤ 281474976710656 := by
    have h : ((i.bytes * n : Nat) : Int) ≤ 281474976710656 := by rw [hby]; omega
    rwa [Int.natCast_mul] at h
  have hr := run_make (P := P) w t e i z ht hi hz .i64 .i64 n n (by omega) (Int.le_refl _) hb' (by omega)
  simp only [Int.toNat_natCast, hs] at hr
  exact hr

/-- block b is a row of n cells, none of them shut -/
structure Row (w : World) (b n : Nat) (T : TypeId) : Prop where
  is : ∃ cs, w.heap[b]? = some (.cells cs T (0, 0)) ∧ cs.size = n
theorem Row.mk' (w : World) (z : Value) (size n : Nat) (T : TypeId) : Row (w.alloc (.cells (mkCells z size n) T)) w.heap.size (n * size) T := ⟨_, alloc_heap _ _, mkCells_size _ _ _⟩
theorem Row.lt {w : World} {b n : Nat} {T : TypeId} (h : Row w b n T) : b < w.heap.size := by obtain ⟨cs, h, _⟩ := h.is; exact heap_lt h
theorem Row.cell {w : World} {b n : Nat} {T : TypeId} (h : Row w b n T) (j : Nat) (hj : j < n) : ∃ v, w.cell? ⟨b, j, none⟩ = some v := by
  obtain ⟨cs, h, hs⟩ := h.is
  exact ⟨_, (cell_of_heap h j).trans (Array.getElem?_eq_getElem (by omega))⟩
theorem Row.free {w : World} {b n : Nat} {T : TypeId} (h : Row w b n T) (j : Nat) : w.frozen? ⟨b, j, none⟩ = false := by
  obtain ⟨cs, h, _⟩ := h.is; exact frozen_of_heap h j
theorem Row.keep {w w' : World} {b n : Nat} {T : TypeId} (h : Row w b n T) (hb : w'.heap[b]? = w.heap[b]?) : Row w' b n T := by
  obtain ⟨cs, h, hs⟩ := h.is; exact ⟨cs, hb.trans h, hs⟩
theorem Row.set {w : World} {b n : Nat} {T : TypeId} (h : Row w b n T) (j : Nat) (v : Value) : Row (w.setCell ⟨b, j, none⟩ v) b n T := by
  obtain ⟨cs, h, hs⟩ := h.is; exact ⟨_, setCell_heap h v, by simpa using hs⟩
theorem Row.new {w w' : World} {b n : Nat} {T : TypeId} (h : Row w b n T) (k : New w w') : Row w' b n T := h.keep (k.block b h.lt (fun f => f))

theorem heap_set {w : World} {b c o : Nat} {x : Obj} (h : w.heap[b]? = some x) (hb : b ≠ c) (v : Value) : (w.setCell ⟨c, o, none⟩ v).heap[b]? = some x := (Below.heap_setCell _ _ _ _ hb).trans h

/-- what was new at w may be turned -/
theorem New.on {w w1 w2 : World} (h : New w w1) {S : Nat → Prop} (k : Kp S w1 w2) (hs : ∀ i, S i → w.heap.size ≤ i) : New w w2 :=
  ⟨k.os.trans h.os, k.tape.trans h.tape, k.output.trans h.output, Nat.le_trans h.size k.size, fun i hi _ => (k.block i (by have := h.size; omega) (fun s => by have := hs i s; omega)).trans (h.block i hi (fun f => f))⟩
theorem New.one {w w1 w2 : World} (h : New w w1) {b : Nat} (k : One b w1 w2) (hb : w.heap.size ≤ b) : New w w2 := h.on k (fun _ e => e ▸ hb)
theorem One.new {w w1 w2 : World} {b : Nat} (h : One b w w1) (k : New w1 w2) : One b w w2 := h.trans (k.mono fun _ _ f => f.elim)

/-- bytes that came in -/
def Src (w : World) (a : Option Addr) (len cap : Nat) : Prop :=
  len ≤ cap ∧ cap ≤ maxLen ∧ (len = 0 ∨ ∃ b o, a = some ⟨b, o, none⟩ ∧ ∀ i, i < len → ∃ x : Int, 0 ≤ x ∧ x < 256 ∧ w.cell? ⟨b, o + i, none⟩ = some (.int .u8 x))

theorem Src.keep {w w' : World} {a : Option Addr} {len cap : Nat} (h : Src w a len cap) (k : New w w') : Src w' a len cap := by
  refine ⟨h.1, h.2.1, ?_⟩
  rcases h.2.2 with h0 | ⟨b, o, ha, hc⟩
  · exact .inl h0
  · exact .inr ⟨b, o, ha, fun i hi => by
      obtain ⟨x, x0, x1, hx⟩ := hc i hi
      exact ⟨x, x0, x1, by rw [k.cell (cell_lt hx) (fun f => f)]; exact hx⟩⟩

open Go.ChangeShapes Go.WideShapes in
theorem open_bytes {H : Type} {enc : TypeId × Value → H} {P : Program} {W : World} {r : Reach} {b0 : Nat} {t e : TypeId} {v : Value} {d : DataW H} {p : List MemPlace} (ht : P.underlying t = some (.slice e)) (he : P.underlying e = some (.int .u8)) (hc : P.cellsOf e = 1)
    (hv : Value.okWide P W r b0 t v) (h : DataW.Trod enc P W 0 (fun _ => true) true t v d p) : ∃ a len cap, v = .slice a len cap ∧ Src W a len cap := by
  obtain ⟨a, len, cap, rfl⟩ := okWide_slice ht hv
  obtain ⟨fuel, hf⟩ := h
  refine ⟨a, len, cap, rfl, ?_⟩
  rcases open_ints ht he hc hf with ⟨hcs, _⟩ | ⟨x, l, c, zs, hcs, _, hl, hm, hz, _, hcell, hwz⟩
  · simp [Value.cells] at hcs
    obtain ⟨rfl, rfl, rfl⟩ := hcs
    exact ⟨Nat.le_refl _, Nat.zero_le _, .inl rfl⟩
  · simp [Value.cells] at hcs
    obtain ⟨rfl, rfl, rfl⟩ := hcs
    refine ⟨hl, hm, ?_⟩
    by_cases h0 : len = 0
    · exact .inl h0
    · refine .inr ?_
      simp only [if_true] at hz
      obtain ⟨b, o, spot⟩ := x
      have hspot : spot = none := by simpa [Addr.add] using World.cell?_spot (hcell 0 (by omega))
      subst hspot
      refine ⟨b, o, rfl, fun i hi => ?_⟩
      have hi' : i < zs.length := by omega
      have hw := hwz _ (List.getElem_mem hi')
      have hb := bounds_u8 hw
      refine ⟨zs[i], hb.1, by omega, ?_⟩
      have := hcell i hi'
      rw [List.getD_eq_getElem?_getD, List.getElem?_eq_getElem hi'] at this
      rwa [Go.WideShapes.add_plain] at this

theorem newOf {P : Program} {f : FuncId} {args : Array Value} {w : World} {Q : Ending → Prop} (h : Calls P f args w fun e w' => Q e ∧ ∃ k, w' = w.drewN k) : Calls P f args w fun e w' => Q e ∧ New w w' :=
  h.mono fun _ _ ⟨hq, k, hk⟩ => ⟨hq, hk ▸ drewN_kp _ k (Kp.refl _ _)⟩

/-- xor of two numbers that are not negative is none either -/
theorem xor_nonneg (a b : Int) (ha : 0 ≤ a) (ha' : a < 4611686018427387904) (hb : 0 ≤ b) (hb' : b < 4611686018427387904) : 0 ≤ bits .xor .i64 a b ∧ bits .xor .i64 a b < 4611686018427387904 := by
  obtain ⟨m, rfl⟩ := Int.eq_ofNat_of_zero_le ha
  obtain ⟨n, rfl⟩ := Int.eq_ofNat_of_zero_le hb
  have hx : m ^^^ n < 2 ^ 62 := Nat.xor_lt_two_pow (by omega) (by omega)
  have h1 : (BitVec.ofInt 64 (m : Int)).toNat = m := by
    rw [BitVec.ofInt_natCast, BitVec.toNat_ofNat]; exact Nat.mod_eq_of_lt (by omega)
  have h2 : (BitVec.ofInt 64 (n : Int)).toNat = n := by
    rw [BitVec.ofInt_natCast, BitVec.toNat_ofNat]; exact Nat.mod_eq_of_lt (by omega)
  have e : bits .xor .i64 (m : Int) (n : Int) = ((m ^^^ n : Nat) : Int) := by
    show IntKind.i64.wrap ((BitVec.ofInt 64 (m : Int) ^^^ BitVec.ofInt 64 (n : Int)).toNat : Int) = _
    rw [BitVec.toNat_xor, h1, h2]
    exact IntWalk.i64_in _ (by omega)
  rw [e]
  omega
end Go.Proofs.YtckikiaockkmbaaDoor.Kit
