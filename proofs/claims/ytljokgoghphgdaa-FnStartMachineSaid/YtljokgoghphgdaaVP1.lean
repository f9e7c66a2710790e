/- Plain words for worlds: which blocks a call may have turned; small laws on them. No program in sight; no conditions. -/
import Derived.Below
import Derived.Deep.Draws
import Derived.Laws.MakeOwn
import Derived.OpenShut
import Derived.ChangeOld
import Derived.Deep.Heap
import Derived.IntWalk
import Derived.Lib.Hide
import Derived.WalkKit
import Derived.ProofKit
import Derived.Test.YtljokgoghphgdaaChecked
import Derived.Deep.QuietTactic
import Derived.BigQuiet
import Derived.OwnWalk
import Derived.StillTailTactics
import Derived.Maps.AppendAt
import Derived.Laws.OwnMore
import Derived.RegionTactic
import Derived.Laws.AppendOwnNone
import Derived.Lib.SliceRun
import Derived.Deep.RegionHeld3
import Derived.Deep.RegionWith
import Derived.Deep.DeepCutAuto
namespace Go.Proofs.Ytljokgoghphgdaa.Kit
open Go.RowKit

theorem retB {a b : Bool} (h : a = b) : Ending.returned (.bool a) = .returned (.bool b) := by rw [h]
theorem retI {k : IntKind} {a b : Int} (h : a = b) : Ending.returned (.int k a) = .returned (.int k b) := by rw [h]

/-- w' is w but for new blocks and for the old blocks of S -/
structure Kp (S : Nat → Prop) (w w' : World) : Prop where
  os : w'.os = w.os
  tape : w'.tape = w.tape
  output : w'.output = w.output
  size : w.heap.size ≤ w'.heap.size
  block : ∀ k, k < w.heap.size → ¬ S k → w'.heap[k]? = w.heap[k]?

namespace Kp
variable {S T : Nat → Prop} {a w w' w'' : World}
theorem refl (S : Nat → Prop) (w : World) : Kp S w w := ⟨rfl, rfl, rfl, Nat.le_refl _, fun _ _ _ => rfl⟩
theorem trans (h : Kp S w w') (k : Kp S w' w'') : Kp S w w'' :=
  ⟨k.os.trans h.os, k.tape.trans h.tape, k.output.trans h.output, Nat.le_trans h.size k.size, fun i hi hs => (k.block i (Nat.lt_of_lt_of_le hi h.size) hs).trans (h.block i hi hs)⟩
theorem mono (h : Kp S w w') (hs : ∀ k, k < w.heap.size → S k → T k) : Kp T w w' := ⟨h.os, h.tape, h.output, h.size, fun k hk ht => h.block k hk (fun s => ht (hs k hk s))⟩
theorem drew (h : Kp S a w) : Kp S a w.drew := ⟨h.os, h.tape, h.output, h.size, h.block⟩
theorem alloc (h : Kp S a w) (o : Obj) : Kp S a (w.alloc o) :=
  ⟨h.os, h.tape, h.output, by have := h.size; simp; omega, fun k hk hs => (Below.heap_alloc _ _ _ (by have := h.size; omega)).trans (h.block k hk hs)⟩
theorem setCell (h : Kp S a w) {p : Addr} (hp : S p.block ∨ a.heap.size ≤ p.block) (u : Value) : Kp S a (w.setCell p u) :=
  ⟨h.os, h.tape, h.output, by have := h.size; simp [World.setCell]; omega, fun k hk hs => (Below.heap_setCell _ _ _ _ (fun e => by rcases hp with hp | hp; exact hs (e ▸ hp); omega)).trans (h.block k hk hs)⟩
/-- what is turned lies from B on -/
theorem below (h : Kp S w w') {B : Nat} (hB : B ≤ w.heap.size) (hs : ∀ k, S k → B ≤ k) : Below B w w' :=
  ⟨h.os, h.tape, h.output, h.size, fun k hk => h.block k (by omega) (fun s => by have := hs k s; omega)⟩
theorem toBelow (h : Kp (fun _ => False) w w') : Below w.heap.size w w' := h.below (Nat.le_refl _) (fun _ h => h.elim)
theorem cell (h : Kp S w w') {b : Nat} (hb : b < w.heap.size) (hs : ¬ S b) (o : Nat) : w'.cell? ⟨b, o, none⟩ = w.cell? ⟨b, o, none⟩ := World.cell?_of_block (w := w) (h.block b hb hs)
theorem frozen (h : Kp S w w') {b : Nat} (hb : b < w.heap.size) (hs : ¬ S b) (o : Nat) : w'.frozen? ⟨b, o, none⟩ = w.frozen? ⟨b, o, none⟩ := World.frozen?_of_block (w := w) (h.block b hb hs)
end Kp

/-- nothing old is turned -/
abbrev New (w w' : World) : Prop := Kp (fun _ => False) w w'
/-- block b alone of the old ones is turned -/
abbrev One (b : Nat) (w w' : World) : Prop := Kp (fun k => k = b) w w'

theorem cell_lt {w : World} {b o : Nat} {v : Value} (h : w.cell? ⟨b, o, none⟩ = some v) : b < w.heap.size := World.block_lt_of_cell? w ⟨b, o, none⟩ h
theorem heap_lt {w : World} {b : Nat} {x : Obj} (h : w.heap[b]? = some x) : b < w.heap.size := (Array.getElem?_eq_some_iff.1 h).1
theorem cell_of_heap {w : World} {b : Nat} {cs : Array Value} {T : TypeId} {f : Nat × Nat} (h : w.heap[b]? = some (.cells cs T f)) (o : Nat) : w.cell? ⟨b, o, none⟩ = cs[o]? := by simp [World.cell?, h]
theorem frozen_of_heap {w : World} {b : Nat} {cs : Array Value} {T : TypeId} (h : w.heap[b]? = some (.cells cs T (0, 0))) (o : Nat) : w.frozen? ⟨b, o, none⟩ = false := by simp [World.frozen?, h]
theorem setCell_heap {w : World} {b o : Nat} {cs : Array Value} {T : TypeId} {f : Nat × Nat} (h : w.heap[b]? = some (.cells cs T f)) (v : Value) : (w.setCell ⟨b, o, none⟩ v).heap[b]? = some (.cells (cs.setIfInBounds o v) T f) := by
  simp [World.setCell, Array.getElem?_modify, h]
theorem alloc_heap (w : World) (x : Obj) : (w.alloc x).heap[w.heap.size]? = some x := heap_alloc_new w x
theorem heap_at {w : World} {x : Obj} {b : Nat} (h : w.heap.size = b) : (w.alloc x).heap[b]? = some x := by subst h; exact alloc_heap _ _
theorem heap_old {w : World} {x y : Obj} {b : Nat} (h : w.heap[b]? = some y) : (w.alloc x).heap[b]? = some y := (Below.heap_alloc w x b (heap_lt h)).trans h
theorem heap_new {w w' : World} (k : New w w') {b : Nat} {x : Obj} (h : w.heap[b]? = some x) : w'.heap[b]? = some x := (k.block b (heap_lt h) (fun f => f)).trans h
theorem drewN_kp (S : Nat → Prop) {a w : World} (n : Nat) (h : Kp S a w) : Kp S a (w.drewN n) := by
  induction n with
  | zero => exact h
  | succ n ih => exact ⟨ih.os, ih.tape, ih.output, ih.size, ih.block⟩
theorem drewN_heap (w : World) (n : Nat) : (w.drewN n).heap = w.heap := by
  induction n with
  | zero => rfl
  | succ n ih => exact ih

/-- the cells of a new row of n elements of 'size' cells -/
def mkCells (z : Value) (size n : Nat) : Array Value := madeCells z.cells (n * size)
theorem mkCells_size (z : Value) (size n : Nat) : (mkCells z size n).size = n * size := by simp [mkCells, size_madeCells]
theorem run_mk {P : Program} (t e : TypeId) (z : Value) (size bytes : Nat) (ht : P.underlying t = some (.slice e)) (hinfo : (P.info? e).map (fun i => (i.zero, i.size, i.bytes)) = some (some z, size, bytes))
    (n : Nat) (hb : bytes * n ≤ 281474976710656) (h63 : n ≤ 9223372036854775807) (w : World) :
    (Instr.makeSlice t (.int .i64 (n : Int)) (.int .i64 (n : Int))).run P w = .ok (.slice (some ⟨w.heap.size, 0, none⟩) n n) (w.alloc (.cells (mkCells z size n) e)) := by
  obtain ⟨i, hi, hzz⟩ := Option.map_eq_some_iff.1 hinfo
  simp only [Prod.mk.injEq] at hzz
  obtain ⟨hz, hs, hby⟩ := hzz
  have hb' : (i.bytes : Int) * (n : Int) ≤ 281474976710656 := by
    have h : ((i.bytes * n : Nat) : Int) ≤ 281474976710656 := by rw [hby]; omega
    rwa [Int.natCast_mul] at h
  have hr := run_make (P := P) w t e i z ht hi hz .i64 .i64 n n (by omega) (Int.le_refl _) hb' (by omega)
  simp only [Int.toNat_natCast, hs] at hr
  exact hr

/-- block b is a row of n cells, none of them shut -/
structure Row (w : World) (b n : Nat) (T : TypeId) : Prop where
  is : ∃ cs, w.heap[b]? = some (.cells cs T (0, 0)) ∧ cs.size = n
theorem Row.mk' (w : World) (z : Value) (size n : Nat) (T : TypeId) : Row (w.alloc (.cells (mkCells z size n) T)) w.heap.size (n * size) T := ⟨_, alloc_heap _ _, mkCells_size _ _ _⟩
theorem Row.lt {w : World} {b n : Nat} {T : TypeId} (h : Row w b n T) : b < w.heap.size := by obtain ⟨cs, h, _⟩ := h.is; exact heap_lt h
theorem Row.cell {w : World} {b n : Nat} {T : TypeId} (h : Row w b n T) (j : Nat) (hj : j < n) : ∃ v, w.cell? ⟨b, j, none⟩ = some v := by
  obtain ⟨cs, h, hs⟩ := h.is
  exact ⟨_, (cell_of_heap h j).trans (Array.getElem?_eq_getElem (by omega))⟩
theorem Row.free {w : World} {b n : Nat} {T : TypeId} (h : Row w b n T) (j : Nat) : w.frozen? ⟨b, j, none⟩ = false := by
  obtain ⟨cs, h, _⟩ := h.is; exact frozen_of_heap h j
theorem Row.keep {w w' : World} {b n : Nat} {T : TypeId} (h : Row w b n T) (hb : w'.heap[b]? = w.heap[b]?) : Row w' b n T := by
  obtain ⟨cs, h, hs⟩ := h.is; exact ⟨cs, hb.trans h, hs⟩
theorem Row.set {w : World} {b n : Nat} {T : TypeId} (h : Row w b n T) (j : Nat) (v : Value) : Row (w.setCell ⟨b, j, none⟩ v) b n T := by
  obtain ⟨cs, h, hs⟩ := h.is; exact ⟨_, setCell_heap h v, by simpa using hs⟩
theorem Row.new {w w' : World} {b n : Nat} {T : TypeId} (h : Row w b n T) (k : New w w') : Row w' b n T := h.keep (k.block b h.lt (fun f => f))

theorem heap_set {w : World} {b c o : Nat} {x : Obj} (h : w.heap[b]? = some x) (hb : b ≠ c) (v : Value) : (w.setCell ⟨c, o, none⟩ v).heap[b]? = some x := (Below.heap_setCell _ _ _ _ hb).trans h

/-- what was new at w may be turned -/
theorem New.on {w w1 w2 : World} (h : New w w1) {S : Nat → Prop} (k : Kp S w1 w2) (hs : ∀ i, S i → w.heap.size ≤ i) : New w w2 :=
  ⟨k.os.trans h.os, k.tape.trans h.tape, k.output.trans h.output, Nat.le_trans h.size k.size, fun i hi _ => (k.block i (by have := h.size; omega) (fun s => by have := hs i s; omega)).trans (h.block i hi (fun f => f))⟩
theorem New.one {w w1 w2 : World} (h : New w w1) {b : Nat} (k : One b w1 w2) (hb : w.heap.size ≤ b) : New w w2 := h.on k (fun _ e => e ▸ hb)
theorem One.new {w w1 w2 : World} {b : Nat} (h : One b w w1) (k : New w1 w2) : One b w w2 := h.trans (k.mono fun _ _ f => f.elim)

/-- bytes that came in -/
def Src (w : World) (a : Option Addr) (len cap : Nat) : Prop :=
  len ≤ cap ∧ cap ≤ maxLen ∧ (len = 0 ∨ ∃ b o, a = some ⟨b, o, none⟩ ∧ ∀ i, i < len → ∃ x : Int, 0 ≤ x ∧ x < 256 ∧ w.cell? ⟨b, o + i, none⟩ = some (.int .u8 x))

theorem Src.keep {w w' : World} {a : Option Addr} {len cap : Nat} (h : Src w a len cap) (k : New w w') : Src w' a len cap := by
  refine ⟨h.1, h.2.1, ?_⟩
  rcases h.2.2 with h0 | ⟨b, o, ha, hc⟩
  · exact .inl h0
  · exact .inr ⟨b, o, ha, fun i hi => by
      obtain ⟨x, x0, x1, hx⟩ := hc i hi
      exact ⟨x, x0, x1, by rw [k.cell (cell_lt hx) (fun f => f)]; exact hx⟩⟩

open Go.ChangeShapes Go.WideShapes in
theorem open_bytes {H : Type} {enc : TypeId × Value → H} {P : Program} {W : World} {r : Reach} {b0 : Nat} {t e : TypeId} {v : Value} {d : DataW H} {p : List MemPlace} (ht : P.underlying t = some (.slice e)) (he : P.underlying e = some (.int .u8)) (hc : P.cellsOf e = 1)
    (hv : Value.okWide P W r b0 t v) (h : DataW.Trod enc P W 0 (fun _ => true) true t v d p) : ∃ a len cap, v = .slice a len cap ∧ Src W a len cap := by
  obtain ⟨a, len, cap, rfl⟩ := okWide_slice ht hv
  obtain ⟨fuel, hf⟩ := h
  refine ⟨a, len, cap, rfl, ?_⟩
  rcases open_ints ht he hc hf with ⟨hcs, _⟩ | ⟨x, l, c, zs, hcs, _, hl, hm, hz, _, hcell, hwz⟩
  · simp [Value.cells] at hcs
    obtain ⟨rfl, rfl, rfl⟩ := hcs
    exact ⟨Nat.le_refl _, Nat.zero_le _, .inl rfl⟩
  · simp [Value.cells] at hcs
    obtain ⟨rfl, rfl, rfl⟩ := hcs
    refine ⟨hl, hm, ?_⟩
    by_cases h0 : len = 0
    · exact .inl h0
    · refine .inr ?_
      simp only [if_true] at hz
      obtain ⟨b, o, spot⟩ := x
      have hspot : spot = none := by simpa [Addr.add] using World.cell?_spot (hcell 0 (by omega))
      subst hspot
      refine ⟨b, o, rfl, fun i hi => ?_⟩
      have hi' : i < zs.length := by omega
      have hw := hwz _ (List.getElem_mem hi')
      have hb := bounds_u8 hw
      refine ⟨zs[i], hb.1, by omega, ?_⟩
      have := hcell i hi'
      rw [List.getD_eq_getElem?_getD, List.getElem?_eq_getElem hi'] at this
      rwa [Go.WideShapes.add_plain] at this

theorem newOf {P : Program} {f : FuncId} {args : Array Value} {w : World} {Q : Ending → Prop} (h : Calls P f args w fun e w' => Q e ∧ ∃ k, w' = w.drewN k) : Calls P f args w fun e w' => Q e ∧ New w w' :=
  h.mono fun _ _ ⟨hq, k, hk⟩ => ⟨hq, hk ▸ drewN_kp _ k (Kp.refl _ _)⟩

/-- xor of two numbers that are not negative is none either -/
theorem xor_nonneg (a b : Int) (ha : 0 ≤ a) (ha' : a < 4611686018427387904) (hb : 0 ≤ b) (hb' : b < 4611686018427387904) : 0 ≤ bits .xor .i64 a b ∧ bits .xor .i64 a b < 4611686018427387904 := by
  obtain ⟨m, rfl⟩ := Int.eq_ofNat_of_zero_le ha
  obtain ⟨n, rfl⟩ := Int.eq_ofNat_of_zero_le hb
  have hx : m ^^^ n < 2 ^ 62 := Nat.xor_lt_two_pow (by omega) (by omega)
  have h1 : (BitVec.ofInt 64 (m : Int)).toNat = m := by
    rw [BitVec.ofInt_natCast, BitVec.toNat_ofNat]; exact Nat.mod_eq_of_lt (by omega)
  have h2 : (BitVec.ofInt 64 (n : Int)).toNat = n := by
    rw [BitVec.ofInt_natCast, BitVec.toNat_ofNat]; exact Nat.mod_eq_of_lt (by omega)
  have e : bits .xor .i64 (m : Int) (n : Int) = ((m ^^^ n : Nat) : Int) := by
    show IntKind.i64.wrap ((BitVec.ofInt 64 (m : Int) ^^^ BitVec.ofInt 64 (n : Int)).toNat : Int) = _
    rw [BitVec.toNat_xor, h1, h2]
    exact IntWalk.i64_in _ (by omega)
  rw [e]
  omega
end Go.Proofs.Ytljokgoghphgdaa.Kit

/- Contracts of the label functions (LabelValid, LabelSecret, LabelTrusted, LabelFlows, JoinLabels, MeetLabels) of spec and of impl: what each returns, for all integers. No conditions. -/
namespace Go.Proofs.Ytljokgoghphgdaa.Lab
open Go.RowKit

theorem retB {a b : Bool} (h : a = b) : Ending.returned (.bool a) = .returned (.bool b) := by rw [h]
theorem retI {k : IntKind} {a b : Int} (h : a = b) : Ending.returned (.int k a) = .returned (.int k b) := by rw [h]

/-- l is a label -/
def okL (l : Int) : Bool := decide (0 ≤ l ∧ l ≤ 3)
def inside (n lo hi : Int) : Bool := decide (lo ≤ n ∧ n ≤ hi)
theorem within (n lo hi : Int) (w : World) : Calls Try.prog 56 #[.int .i64 n, .int .i64 lo, .int .i64 hi] w fun e w' => e = .returned (.bool (inside n lo hi)) ∧ w = w' := by
  by_cases h1 : lo ≤ n
  · by_cases h2 : n ≤ hi
    · go_enter Try.func56, Try.ntmps56
      go_wp2
      go_ret
      exact ⟨retB (by simp [inside, h1, h2]), rfl⟩
    · go_enter Try.func56, Try.ntmps56
      go_wp2
      go_ret
      exact ⟨retB (by simp [inside]; omega), rfl⟩
  · go_enter Try.func56, Try.ntmps56
    go_wp2
    go_ret
    exact ⟨retB (by simp [inside]; omega), rfl⟩

theorem specLabelValid (l : Int) (w : World) : Calls Try.prog 127 #[.int .i64 l] w fun e w' => e = .returned (.bool (okL l)) ∧ w = w' := by
  by_cases h1 : 0 ≤ l
  · by_cases h2 : l ≤ 3
    · go_enter Try.func127, Try.ntmps127
      go_wp2
      go_ret
      exact ⟨retB (by simp [okL, h1, h2]), rfl⟩
    · go_enter Try.func127, Try.ntmps127
      go_wp2
      go_ret
      exact ⟨retB (by simp [okL]; omega), rfl⟩
  · go_enter Try.func127, Try.ntmps127
    go_wp2
    go_ret
    exact ⟨retB (by simp [okL]; omega), rfl⟩

theorem implLabelValid (l : Int) (w : World) : Calls Try.prog 134 #[.int .i64 l] w fun e w' => e = .returned (.bool (okL l)) ∧ w = w' := by
  go_enter Try.func134, Try.ntmps134
  go_wp2_with (go_at_call 56; refine (within _ _ _ _).mono ?_; rintro e w' ⟨rfl, rfl⟩)
  go_ret
  exact ⟨rfl, rfl⟩

def flowsB (a b : Int) : Bool := bits .andNot .i64 a b == 0

def secretB (l : Int) : Bool := l == 1 || l == 3


def trustedB (l : Int) : Bool := l == 0 || l == 1




def joinL (a b : Int) : Int := if okL a && okL b then bits .or .i64 a b else 3
def meetL (a b : Int) : Int := if okL a && okL b then bits .and .i64 a b else 0
def leL (a b : Int) : Bool := okL a && okL b && flowsB a b







end Go.Proofs.Ytljokgoghphgdaa.Lab

/- The random source l17Rd: l17Open, pick, num: what they return is in range, and which memory they turn. Condition: fewer than 2^40 picks so far. -/
namespace Go.Proofs.Ytljokgoghphgdaa.Draw
open Go.BigFrame
open Go.RowKit Kit
set_option linter.unusedVariables false

/-- the source lies in block br: its bytes below br, p picks so far -/
structure Rd (w : World) (br : Nat) (p : Nat) : Prop where
  src : ∃ (a : Option Addr) (len cap : Nat), w.heap[br]? = some (.cells #[.slice a len cap, .int .i64 p] 127 (0, 0)) ∧
    (len = 0 ∨ ∃ b o, a = some ⟨b, o, none⟩ ∧ b < br ∧ len ≤ 2000 ∧ len ≤ cap ∧ ∀ i, i < len → ∃ x : Int, 0 ≤ x ∧ x < 256 ∧ w.cell? ⟨b, o + i, none⟩ = some (.int .u8 x))

theorem Rd.lt {w : World} {br p : Nat} (h : Rd w br p) : br < w.heap.size := by
  obtain ⟨a, len, cap, hh, _⟩ := h.src
  exact heap_lt hh

/-- the source stays where neither its block nor what lies below is turned -/
theorem Rd.keep {w w' : World} {br p : Nat} (h : Rd w br p) {S : Nat → Prop} (k : Kp S w w') (hs : ∀ k, S k → br < k) : Rd w' br p := by
  have hlt := h.lt
  obtain ⟨a, len, cap, hh, hb⟩ := h.src
  refine ⟨a, len, cap, by rw [k.block br hlt (fun s => by have := hs _ s; omega)]; exact hh, ?_⟩
  rcases hb with h0 | ⟨b, o, ha, hbr, h2, h3, hc⟩
  · exact .inl h0
  · exact .inr ⟨b, o, ha, hbr, h2, h3, fun i hi => by
      obtain ⟨x, x0, x1, hx⟩ := hc i hi
      exact ⟨x, x0, x1, by rw [k.cell (by omega) (fun s => by have := hs _ s; omega)]; exact hx⟩⟩


theorem mixed (X n : Int) (h0 : 0 ≤ X) (h1 : X < 2305843009213693952) (hn : 1 ≤ n) : 0 ≤ (bits .xor .i64 X (X / 64)).tmod n ∧ (bits .xor .i64 X (X / 64)).tmod n < n := by
  obtain ⟨a, _⟩ := xor_nonneg X (X / 64) h0 (by omega) (by omega) (by omega)
  exact ⟨Int.tmod_nonneg _ a, by rw [Int.tmod_eq_emod_of_nonneg a]; exact Int.emod_lt_of_pos _ (by omega)⟩

set_option maxHeartbeats 400000 in
theorem pick_zero (w : World) (br p : Nat) (n : Int) (a : Option Addr) (len cap : Nat) (hp : p < 1099511627776)
    (c0 : w.cell? ⟨br, 0, none⟩ = some (.slice a len cap)) (c1 : w.cell? ⟨br, 1, none⟩ = some (.int .i64 p)) (f1 : w.frozen? ⟨br, 1, none⟩ = false) (h : n < 1 ∨ len = 0) :
    Calls Try.prog 73 #[.pointer (some ⟨br, 0, none⟩), .int .i64 n] w fun e w' => e = .returned (.int .i64 0) ∧ w' = w.setCell ⟨br, 1, none⟩ (.int .i64 (p + 1 : Int)) := by
  by_cases hn : n < 1
  · go_enter Try.func73, Try.ntmps73
    go_wp2
    go_ret
    exact ⟨rfl, rfl⟩
  · obtain rfl : len = 0 := by omega
    clear h
    go_enter Try.func73, Try.ntmps73
    go_wp2
    go_ret
    exact ⟨rfl, rfl⟩


set_option maxHeartbeats 400000 in
theorem pick_byte (w : World) (br p : Nat) (n : Int) (b o len cap : Nat) (x : Int) (hp : p < 1099511627776) (hne : ¬ br = b) (x0 : 0 ≤ x) (x1 : x < 256) (hl : len ≤ 2000)
    (c0 : w.cell? ⟨br, 0, none⟩ = some (.slice (some ⟨b, o, none⟩) len cap)) (c1 : w.cell? ⟨br, 1, none⟩ = some (.int .i64 p)) (f1 : w.frozen? ⟨br, 1, none⟩ = false) (hn : 1 ≤ n) (hlt : p < len)
    (hx : w.cell? ⟨b, o + p, none⟩ = some (.int .u8 x)) :
    Calls Try.prog 73 #[.pointer (some ⟨br, 0, none⟩), .int .i64 n] w fun e w' => e = .returned (.int .i64 (x % n)) ∧ w' = w.setCell ⟨br, 1, none⟩ (.int .i64 (p + 1 : Int)) := by
  have h0 : ((len : Int) == 0) = false := by simp; omega
  go_enter Try.func73, Try.ntmps73
  go_wp2
  go_ret
  exact ⟨rfl, rfl⟩


set_option maxHeartbeats 400000 in
theorem pick_mix (w : World) (br p : Nat) (n : Int) (b o len cap : Nat) (x y : Int) (hp : p < 1099511627776) (hne : ¬ br = b) (x0 : 0 ≤ x) (x1 : x < 256) (y0 : 0 ≤ y) (y1 : y < 256) (hl : len ≤ 2000)
    (c0 : w.cell? ⟨br, 0, none⟩ = some (.slice (some ⟨b, o, none⟩) len cap)) (c1 : w.cell? ⟨br, 1, none⟩ = some (.int .i64 p)) (f1 : w.frozen? ⟨br, 1, none⟩ = false) (hn : 1 ≤ n) (h1 : 0 < len) (hge : len ≤ p)
    (hx : w.cell? ⟨b, o + p % len, none⟩ = some (.int .u8 x)) (hy : w.cell? ⟨b, o + (p * 7 + 3) % len, none⟩ = some (.int .u8 y)) :
    Calls Try.prog 73 #[.pointer (some ⟨br, 0, none⟩), .int .i64 n] w fun e w' => (∃ v : Int, e = .returned (.int .i64 v) ∧ 0 ≤ v ∧ v < n) ∧ ∃ k, w' = (w.setCell ⟨br, 1, none⟩ (.int .i64 (p + 1 : Int))).drewN k := by
  have h0 : ((len : Int) == 0) = false := by simp; omega
  go_enter Try.func73, Try.ntmps73
  have hz : ¬ len = 0 := by omega
  have e2 : IntKind.i64.wrap ((p : Int) * 7) = (p : Int) * 7 := IntWalk.i64_in _ (by omega)
  have e3 : IntKind.i64.wrap ((p : Int) * 7 + 3) = (p : Int) * 7 + 3 := IntWalk.i64_in _ (by omega)
  have d1 : (0 : Int) ≤ (p : Int) / (len : Int) := Int.ediv_nonneg (by omega) (by omega)
  have d2 : (p : Int) / (len : Int) ≤ (p : Int) := Int.ediv_le_self _ (by omega)
  have q1 : (0 : Int) ≤ (p : Int) % (len : Int) := Int.emod_nonneg _ (by omega)
  have q2 : (p : Int) % (len : Int) < (len : Int) := Int.emod_lt_of_pos _ (by omega)
  have q3 : ((p : Int) % (len : Int)).toNat = p % len := by rw [← Int.natCast_emod]; rfl
  have r1 : (0 : Int) ≤ ((p : Int) * 7 + 3) % (len : Int) := Int.emod_nonneg _ (by omega)
  have r2 : ((p : Int) * 7 + 3) % (len : Int) < (len : Int) := Int.emod_lt_of_pos _ (by omega)
  have r3 : (((p : Int) * 7 + 3) % (len : Int)).toNat = (p * 7 + 3) % len := by
    rw [show (p : Int) * 7 + 3 = ((p * 7 + 3 : Nat) : Int) by omega, ← Int.natCast_emod]; rfl
  go_wp2
  go_quiet (fail)
  go_wp2
  go_ret
  refine ⟨⟨_, rfl, ?_⟩, _, rfl⟩
  exact mixed _ n (by omega) (by omega) hn

theorem one_setCell (w : World) (br o : Nat) (v : Value) : One br w (w.setCell ⟨br, o, none⟩ v) := (Kp.refl (fun k => k = br) w).setCell (p := ⟨br, o, none⟩) (.inl rfl) v

theorem Rd.step {w : World} {br p : Nat} (h : Rd w br p) (k : Nat) : Rd ((w.setCell ⟨br, 1, none⟩ (.int .i64 (p + 1 : Int))).drewN k) br (p + 1) := by
  obtain ⟨a, len, cap, hh, hb⟩ := h.src
  refine ⟨a, len, cap, ?_, ?_⟩
  · rw [drewN_heap, setCell_heap hh]; rfl
  · rcases hb with h0 | ⟨b, o, ha, hbr, h2, h3, hc⟩
    · exact .inl h0
    · exact .inr ⟨b, o, ha, hbr, h2, h3, fun i hi => by
        obtain ⟨x, x0, x1, hx⟩ := hc i hi
        refine ⟨x, x0, x1, ?_⟩
        have hk : One br w ((w.setCell ⟨br, 1, none⟩ (.int .i64 (p + 1 : Int))).drewN k) := drewN_kp _ k (one_setCell w br 1 _)
        rw [hk.cell (by have := cell_lt hx; omega) (by omega)]; exact hx⟩

/-- what pick leaves -/
def Picked (w : World) (br p : Nat) (n : Int) (e : Ending) (w' : World) : Prop :=
  ∃ v : Int, e = .returned (.int .i64 v) ∧ 0 ≤ v ∧ (1 ≤ n → v < n) ∧ (n < 1 → v = 0) ∧ One br w w' ∧ Rd w' br (p + 1)

theorem pick (w : World) (br p : Nat) (n : Int) (h : Rd w br p) (hp : p < 1099511627776) :
    Calls Try.prog 73 #[.pointer (some ⟨br, 0, none⟩), .int .i64 n] w (Picked w br p n) := by
  obtain ⟨a, len, cap, hh, hb⟩ := h.src
  have c0 := cell_of_heap hh 0
  have c1 := cell_of_heap hh 1
  have f1 := frozen_of_heap hh 1
  by_cases hz : n < 1 ∨ len = 0
  · refine (pick_zero w br p n a len cap hp c0 c1 f1 hz).mono ?_
    rintro e w' ⟨rfl, rfl⟩
    exact ⟨0, rfl, by omega, by omega, fun _ => rfl, one_setCell _ _ _ _, h.step 0⟩
  · rcases hb with h0 | ⟨b, o, rfl, hbr, h2, h3, hc⟩
    · omega
    · by_cases hlt : p < len
      · obtain ⟨x, x0, x1, hx⟩ := hc p hlt
        refine (pick_byte w br p n b o len cap x hp (by omega) x0 x1 h2 c0 c1 f1 (by omega) hlt hx).mono ?_
        rintro e w' ⟨rfl, rfl⟩
        exact ⟨_, rfl, Int.emod_nonneg _ (by omega), fun h => Int.emod_lt_of_pos _ (by omega), fun h => by omega, one_setCell _ _ _ _, h.step 0⟩
      · obtain ⟨x, x0, x1, hx⟩ := hc (p % len) (Nat.mod_lt _ (by omega))
        obtain ⟨y, y0, y1, hy⟩ := hc ((p * 7 + 3) % len) (Nat.mod_lt _ (by omega))
        refine (pick_mix w br p n b o len cap x y hp (by omega) x0 x1 y0 y1 h2 c0 c1 f1 (by omega) (by omega) (by omega) hx hy).mono ?_
        rintro e w' ⟨⟨v, rfl, v0, v1⟩, k, rfl⟩
        exact ⟨v, rfl, v0, fun _ => v1, fun h => by omega, drewN_kp _ k (one_setCell _ _ _ _), h.step k⟩

/-- what num leaves: one of the list's numbers -/
def Drawn (w : World) (br p : Nat) (Q : Int → Prop) (e : Ending) (w' : World) : Prop :=
  ∃ v : Int, e = .returned (.int .i64 v) ∧ Q v ∧ One br w w' ∧ Rd w' br (p + 1)

set_option maxHeartbeats 400000 in
theorem num (w : World) (br p : Nat) (b n cap : Nat) (Q : Int → Prop) (h : Rd w br p) (hp : p < 1099511627776) (hn : 1 ≤ n) (hb : ¬ br = b) (hm : n ≤ 1000)
    (hc : ∀ i, i < n → ∃ x : Int, Q x ∧ w.cell? ⟨b, i, none⟩ = some (.int .i64 x)) :
    Calls Try.prog 112 #[.pointer (some ⟨br, 0, none⟩), .slice (some ⟨b, 0, none⟩) n cap] w (Drawn w br p Q) := by
  have H := Lib.hid hc; clear hc
  go_enter Try.func112, Try.ntmps112
  go_wp2_with fail
  refine (pick w br p _ h hp).mono ?_
  rintro e w1 ⟨v, rfl, v0, v1, _, h1, h2⟩
  have v2 : v < n := v1 (by omega)
  obtain ⟨k, rfl⟩ := Int.eq_ofNat_of_zero_le v0
  obtain ⟨x, hx, hcx⟩ := H.out k (by omega)
  have hcell : w1.cell? ⟨b, k, none⟩ = some (.int .i64 x) := by rw [h1.cell (cell_lt hcx) (by omega)]; exact hcx
  clear v1 hcx
  go_wp2
  go_ret
  exact ⟨x, rfl, hx, h1, h2⟩

set_option maxHeartbeats 400000 in
/-- l17Open: a new source -/
theorem l17Open (w : World) (a : Option Addr) (len cap : Nat) (hlc : len ≤ cap) (hm : cap ≤ maxLen) (hc : len = 0 ∨ ∃ b o, a = some ⟨b, o, none⟩ ∧ ∀ i, i < len → ∃ x : Int, 0 ≤ x ∧ x < 256 ∧ w.cell? ⟨b, o + i, none⟩ = some (.int .u8 x)) :
    Calls Try.prog 66 #[.slice a len cap] w fun e w' => e = .returned (.pointer (some ⟨w.heap.size, 0, none⟩)) ∧ New w w' ∧ Rd w' w.heap.size 0 := by
  unfold maxLen at hm
  by_cases hl : 2000 < len
  · rcases hc with h0 | ⟨b, o, rfl, hc⟩
    · omega
    · have H := Lib.hid hc; clear hc
      go_enter Try.func66, Try.ntmps66
      go_wp2
      go_ret
      refine ⟨rfl, (Kp.refl _ _).alloc _, ⟨_, _, _, alloc_heap _ _, .inr ⟨b, o, rfl, ?_, by omega, by omega, fun i hi => ?_⟩⟩⟩
      · obtain ⟨x, _, _, hx⟩ := H.out 0 (by omega)
        exact cell_lt hx
      · obtain ⟨x, x0, x1, hx⟩ := H.out i (by omega)
        exact ⟨x, x0, x1, by rw [World.cell?_alloc_lt _ _ _ (cell_lt hx)]; exact hx⟩
  · have H := Lib.hid hc; clear hc
    go_enter Try.func66, Try.ntmps66
    go_wp2
    go_ret
    refine ⟨rfl, (Kp.refl _ _).alloc _, ⟨_, _, _, alloc_heap _ _, ?_⟩⟩
    rcases H.out with h0 | ⟨b, o, rfl, hc⟩
    · exact .inl h0
    · by_cases h0 : len = 0
      · exact .inl h0
      · refine .inr ⟨b, o, rfl, ?_, by omega, hlc, fun i hi => ?_⟩
        · obtain ⟨x, _, _, hx⟩ := hc 0 (by omega)
          exact cell_lt hx
        · obtain ⟨x, x0, x1, hx⟩ := hc i (by omega)
          exact ⟨x, x0, x1, by rw [World.cell?_alloc_lt _ _ _ (cell_lt hx)]; exact hx⟩

end Go.Proofs.Ytljokgoghphgdaa.Draw

/- Flat slices in memory (of ints, of bools, of structs of ints), slices of slices of ints: how they read, and new rows that are filled. No program in sight; no conditions. -/
namespace Go.Proofs.Ytljokgoghphgdaa
open Go.RowKit Kit
set_option linter.unusedVariables false

/-- THE SLICE VALUE s READS IN w AS THE LIST xs: n cells an element, cell t of x is enc x t; its block lies in lo .. hi-1 -/
inductive FlR {α : Type} (n : Nat) (enc : α → Nat → Value) (w : World) (lo hi : Nat) : Value → List α → Prop
  | nil (a : Option Addr) (cap : Nat) : FlR n enc w lo hi (.slice a 0 cap) []
  | cons (b o cap : Nat) (xs : List α) (h0 : 0 < xs.length) (hlo : lo ≤ b) (hhi : b < hi) (hcap : xs.length ≤ cap) (hmax : cap ≤ 9223372036854775807)
      (c : ∀ i (h : i < xs.length) t, t < n → w.cell? ⟨b, o + i * n + t, none⟩ = some (enc xs[i] t)) : FlR n enc w lo hi (.slice (some ⟨b, o, none⟩) xs.length cap) xs

namespace FlR
variable {α : Type} {n : Nat} {enc : α → Nat → Value} {w w' : World} {lo hi lo' hi' : Nat} {s : Value} {xs : List α}
theorem keep (h : FlR n enc w lo hi s xs) (hk : ∀ k, lo ≤ k → k < hi → w'.heap[k]? = w.heap[k]?) : FlR n enc w' lo hi s xs := by
  cases h with
  | nil a cap => exact .nil a cap
  | cons b o cap xs h0 hlo hhi hcap hmax c =>
    have hc : ∀ j, w'.cell? ⟨b, j, none⟩ = w.cell? ⟨b, j, none⟩ := fun j => World.cell?_of_block (w := w) (hk b hlo hhi)
    exact .cons b o cap xs h0 hlo hhi hcap hmax fun i h t ht => by rw [hc]; exact c i h t ht
theorem mono (h : FlR n enc w lo hi s xs) (hl : lo' ≤ lo) (hh : hi ≤ hi') : FlR n enc w lo' hi' s xs := by
  cases h with
  | nil a cap => exact .nil a cap
  | cons b o cap xs h0 hlo hhi hcap hmax c => exact .cons b o cap xs h0 (by omega) (by omega) hcap hmax c
theorem kp (h : FlR n enc w lo hi s xs) {T : Nat → Prop} (hk : Kp T w w') (hh : hi ≤ w.heap.size) (ht : ∀ k, T k → k < lo ∨ hi ≤ k) : FlR n enc w' lo hi s xs :=
  h.keep fun k h1 h2 => hk.block k (by omega) (fun s => by have := ht k s; omega)
theorem new (h : FlR n enc w lo hi s xs) (hh : hi ≤ w.heap.size) (hk : New w w') : FlR n enc w' lo hi s xs := h.kp hk hh (fun _ f => f.elim)
theorem set (h : FlR n enc w lo hi s xs) {b : Nat} (hb : b < lo ∨ hi ≤ b) (o : Nat) (v : Value) : FlR n enc (w.setCell ⟨b, o, none⟩ v) lo hi s xs :=
  h.keep fun k h1 h2 => Below.heap_setCell _ _ _ _ (by show k ≠ b; omega)
theorem len (h : FlR n enc w lo hi s xs) : ∃ a cap, s = .slice a xs.length cap ∧ xs.length ≤ 9223372036854775807 := by
  cases h with
  | nil a cap => exact ⟨a, cap, rfl, by simp⟩
  | cons b o cap xs h0 hlo hhi hcap hmax => exact ⟨_, cap, rfl, by omega⟩
theorem at' {a : Option Addr} {m cap : Nat} (h : FlR n enc w lo hi (.slice a m cap) xs) (k : Nat) (hk : k < xs.length) :
    ∃ b o, a = some ⟨b, o, none⟩ ∧ lo ≤ b ∧ b < hi ∧ ∀ t, t < n → w.cell? ⟨b, o + k * n + t, none⟩ = some (enc xs[k] t) := by
  cases h with
  | nil a cap => simp at hk
  | cons b o cap xs h0 hlo hhi hcap hmax c => exact ⟨b, o, rfl, hlo, hhi, c k hk⟩
/-- what the call owns reads so -/
theorem of_owns {base : Nat} {T : TypeId} {v : Value} {cells : List Value} (h : w.ownsRow base T n v xs.length cells) (hc : ∀ i (hi : i < xs.length) t, t < n → cells[i * n + t]? = some (enc xs[i] t)) : FlR n enc w base w.heap.size v xs := by
  rcases h.2 with ⟨rfl, h0⟩ | ⟨g, cap, cur, rfl, hg, hh, hn, hm, hs, ht⟩
  · have : xs = [] := List.eq_nil_of_length_eq_zero h0
    subst this
    exact .nil _ _
  · by_cases h0 : xs.length = 0
    · have : xs = [] := List.eq_nil_of_length_eq_zero h0
      subst this
      exact .nil _ _
    · refine .cons g 0 cap xs (by omega) hg (heap_lt hh) hn hm fun i hi t htn => ?_
      rw [cell_of_heap hh, Nat.zero_add, ← hc i hi t htn, ← ht, List.getElem?_take]
      have hlt : i * n + t < xs.length * n := by
        have : (i + 1) * n ≤ xs.length * n := Nat.mul_le_mul_right _ hi
        rw [Nat.add_mul] at this; omega
      simp [hlt]
end FlR

abbrev encI : Int → Nat → Value := fun x _ => .int .i64 x
abbrev encB : Bool → Nat → Value := fun x _ => .bool x
abbrev IntsR : World → Nat → Nat → Value → List Int → Prop := FlR 1 encI
abbrev BoolsR : World → Nat → Nat → Value → List Bool → Prop := FlR 1 encB
/-- an event: kind, value -/
abbrev Ev := Int × Int
def encE (e : Ev) : Nat → Value | 0 => .int .i64 e.1 | _ => .int .i64 e.2
abbrev EvsR : World → Nat → Nat → Value → List Ev → Prop := FlR 2 encE
/-- an instruction -/
structure Ins where
  op : Int
  a : Int
  b : Int
  c : Int
  d : Int
  deriving DecidableEq
def encN (x : Ins) : Nat → Value | 0 => .int .i64 x.op | 1 => .int .i64 x.a | 2 => .int .i64 x.b | 3 => .int .i64 x.c | _ => .int .i64 x.d
abbrev InssR : World → Nat → Nat → Value → List Ins → Prop := FlR 5 encN

theorem IntsR.at {w : World} {lo hi : Nat} {xs : List Int} {a : Option Addr} {m cap : Nat} (h : IntsR w lo hi (.slice a m cap) xs) (k : Nat) (hk : k < xs.length) :
    ∃ b o, a = some ⟨b, o, none⟩ ∧ lo ≤ b ∧ b < hi ∧ w.cell? ⟨b, o + k, none⟩ = some (.int .i64 xs[k]) := by
  obtain ⟨b, o, ha, h1, h2, c⟩ := h.at' k hk
  exact ⟨b, o, ha, h1, h2, by simpa using c 0 (by omega)⟩
theorem BoolsR.at {w : World} {lo hi : Nat} {xs : List Bool} {a : Option Addr} {m cap : Nat} (h : BoolsR w lo hi (.slice a m cap) xs) (k : Nat) (hk : k < xs.length) :
    ∃ b o, a = some ⟨b, o, none⟩ ∧ lo ≤ b ∧ b < hi ∧ w.cell? ⟨b, o + k, none⟩ = some (.bool xs[k]) := by
  obtain ⟨b, o, ha, h1, h2, c⟩ := h.at' k hk
  exact ⟨b, o, ha, h1, h2, by simpa using c 0 (by omega)⟩
theorem EvsR.at {w : World} {lo hi : Nat} {xs : List Ev} {a : Option Addr} {m cap : Nat} (h : EvsR w lo hi (.slice a m cap) xs) (k : Nat) (hk : k < xs.length) :
    ∃ b o, a = some ⟨b, o, none⟩ ∧ lo ≤ b ∧ b < hi ∧ w.cell? ⟨b, o + k * 2, none⟩ = some (.int .i64 xs[k].1) ∧ w.cell? ⟨b, o + k * 2 + 1, none⟩ = some (.int .i64 xs[k].2) := by
  obtain ⟨b, o, ha, h1, h2, c⟩ := h.at' k hk
  exact ⟨b, o, ha, h1, h2, c 0 (by omega), c 1 (by omega)⟩
theorem InssR.at {w : World} {lo hi : Nat} {xs : List Ins} {a : Option Addr} {m cap : Nat} (h : InssR w lo hi (.slice a m cap) xs) (k : Nat) (hk : k < xs.length) :
    ∃ b o, a = some ⟨b, o, none⟩ ∧ lo ≤ b ∧ b < hi ∧ w.cell? ⟨b, o + k * 5, none⟩ = some (.int .i64 xs[k].op) ∧ w.cell? ⟨b, o + k * 5 + 1, none⟩ = some (.int .i64 xs[k].a) ∧ w.cell? ⟨b, o + k * 5 + 2, none⟩ = some (.int .i64 xs[k].b) ∧
      w.cell? ⟨b, o + k * 5 + 3, none⟩ = some (.int .i64 xs[k].c) ∧ w.cell? ⟨b, o + k * 5 + 4, none⟩ = some (.int .i64 xs[k].d) := by
  obtain ⟨b, o, ha, h1, h2, c⟩ := h.at' k hk
  exact ⟨b, o, ha, h1, h2, c 0 (by omega), c 1 (by omega), c 2 (by omega), c 3 (by omega), c 4 (by omega)⟩

/-- a slice of slices of ints -/
inductive MatR (w : World) (lo hi : Nat) : Value → List (List Int) → Prop
  | nil (a : Option Addr) (cap : Nat) : MatR w lo hi (.slice a 0 cap) []
  | cons (b o cap : Nat) (xs : List (List Int)) (S : Nat → Value) (h0 : 0 < xs.length) (hlo : lo ≤ b) (hhi : b < hi) (hcap : xs.length ≤ cap) (hmax : cap ≤ 9223372036854775807)
      (c : ∀ i (h : i < xs.length), w.cell? ⟨b, o + i, none⟩ = some (S i)) (r : ∀ i (h : i < xs.length), IntsR w lo hi (S i) xs[i]) : MatR w lo hi (.slice (some ⟨b, o, none⟩) xs.length cap) xs
namespace MatR
variable {w w' : World} {lo hi lo' hi' : Nat} {s : Value} {xs : List (List Int)}
theorem keep (h : MatR w lo hi s xs) (hk : ∀ k, lo ≤ k → k < hi → w'.heap[k]? = w.heap[k]?) : MatR w' lo hi s xs := by
  cases h with
  | nil a cap => exact .nil a cap
  | cons b o cap xs S h0 hlo hhi hcap hmax c r =>
    have hc : ∀ j, w'.cell? ⟨b, j, none⟩ = w.cell? ⟨b, j, none⟩ := fun j => World.cell?_of_block (w := w) (hk b hlo hhi)
    exact .cons b o cap xs S h0 hlo hhi hcap hmax (fun i h => by rw [hc]; exact c i h) (fun i h => (r i h).keep hk)
theorem mono (h : MatR w lo hi s xs) (hl : lo' ≤ lo) (hh : hi ≤ hi') : MatR w lo' hi' s xs := by
  cases h with
  | nil a cap => exact .nil a cap
  | cons b o cap xs S h0 hlo hhi hcap hmax c r => exact .cons b o cap xs S h0 (by omega) (by omega) hcap hmax c (fun i h => (r i h).mono hl hh)
theorem kp (h : MatR w lo hi s xs) {T : Nat → Prop} (hk : Kp T w w') (hh : hi ≤ w.heap.size) (ht : ∀ k, T k → k < lo ∨ hi ≤ k) : MatR w' lo hi s xs :=
  h.keep fun k h1 h2 => hk.block k (by omega) (fun s => by have := ht k s; omega)
theorem new (h : MatR w lo hi s xs) (hh : hi ≤ w.heap.size) (hk : New w w') : MatR w' lo hi s xs := h.kp hk hh (fun _ f => f.elim)
theorem len (h : MatR w lo hi s xs) : ∃ a cap, s = .slice a xs.length cap ∧ xs.length ≤ 9223372036854775807 := by
  cases h with
  | nil a cap => exact ⟨a, cap, rfl, by simp⟩
  | cons b o cap xs S h0 hlo hhi hcap hmax => exact ⟨_, cap, rfl, by omega⟩
theorem at' {a : Option Addr} {m cap : Nat} (h : MatR w lo hi (.slice a m cap) xs) (k : Nat) (hk : k < xs.length) :
    ∃ b o s, a = some ⟨b, o, none⟩ ∧ lo ≤ b ∧ b < hi ∧ w.cell? ⟨b, o + k, none⟩ = some s ∧ IntsR w lo hi s xs[k] := by
  cases h with
  | nil a cap => simp at hk
  | cons b o cap xs S h0 hlo hhi hcap hmax c r => exact ⟨b, o, S k, rfl, hlo, hhi, c k hk, r k hk⟩
end MatR

/-- a new row of n cells an element, whose first j elements are those of xs -/
structure RowF {α : Type} (n : Nat) (enc : α → Nat → Value) (w : World) (b : Nat) (T : TypeId) (xs : List α) (j : Nat) : Prop where
  is : ∃ cs : Array Value, w.heap[b]? = some (.cells cs T (0, 0)) ∧ cs.size = xs.length * n ∧ ∀ i (h : i < xs.length), i < j → ∀ t, t < n → cs[i * n + t]? = some (enc xs[i] t)
namespace RowF
variable {α : Type} {n : Nat} {enc : α → Nat → Value} {w w' : World} {b : Nat} {T : TypeId} {xs : List α} {j : Nat}
theorem zero (w : World) (z : Value) : RowF n enc (w.alloc (.cells (mkCells z n xs.length) T)) w.heap.size T xs 0 := ⟨_, alloc_heap _ _, mkCells_size _ _ _, fun i _ h => absurd h (Nat.not_lt_zero _)⟩
theorem row (h : RowF n enc w b T xs j) : Row w b (xs.length * n) T := by obtain ⟨cs, h1, h2, _⟩ := h.is; exact ⟨cs, h1, h2⟩
theorem keep (h : RowF n enc w b T xs j) (hb : w'.heap[b]? = w.heap[b]?) : RowF n enc w' b T xs j := by obtain ⟨cs, h1, h2, h3⟩ := h.is; exact ⟨cs, hb.trans h1, h2, h3⟩
theorem new (h : RowF n enc w b T xs j) (k : New w w') : RowF n enc w' b T xs j := h.keep (k.block b h.row.lt (fun f => f))
theorem owns (h : RowF n enc w b T xs xs.length) (hm : xs.length ≤ maxLen) : ∃ cells, w.ownsRow b T n (.slice (some ⟨b, 0, none⟩) xs.length xs.length) xs.length cells ∧ ∀ i (hi : i < xs.length) t, t < n → cells[i * n + t]? = some (enc xs[i] t) := by
  obtain ⟨cs, h1, h2, h3⟩ := h.is
  refine ⟨cs.toList, ⟨by simpa using h2, .inr ⟨b, xs.length, cs, rfl, Nat.le_refl _, h1, Nat.le_refl _, hm, h2, ?_⟩⟩, fun i hi t ht => by simpa using h3 i hi hi t ht⟩
  rw [List.take_of_length_le (by simp [h2])]
theorem reads (h : RowF n enc w b T xs xs.length) (hm : xs.length ≤ maxLen) : FlR n enc w b w.heap.size (.slice (some ⟨b, 0, none⟩) xs.length xs.length) xs := by
  obtain ⟨cells, h1, h2⟩ := h.owns hm
  exact FlR.of_owns h1 h2
end RowF
theorem RowF.step1 {α : Type} {enc : α → Nat → Value} {w : World} {b : Nat} {T : TypeId} {xs : List α} {j : Nat} (h : RowF 1 enc w b T xs j) (hj : j < xs.length) {v : Value} (hv : v = enc xs[j] 0) : RowF 1 enc (w.setCell ⟨b, j, none⟩ v) b T xs (j + 1) := by
  subst hv
  obtain ⟨cs, h1, h2, h3⟩ := h.is
  refine ⟨_, setCell_heap h1 _, by simpa using h2, fun i hi hij t ht => ?_⟩
  obtain rfl : t = 0 := by omega
  simp only [Nat.mul_one, Nat.add_zero] at *
  rw [Array.getElem?_setIfInBounds]
  by_cases e : j = i
  · subst e; simp [h2, hj]
  · simp only [e, if_false]; exact (by simpa using h3 i hi (by omega) 0 (by omega))
theorem RowF.step5 {α : Type} {enc : α → Nat → Value} {w : World} {b : Nat} {T : TypeId} {xs : List α} {j : Nat} (h : RowF 5 enc w b T xs j) (hj : j < xs.length) {v0 v1 v2 v3 v4 : Value} (e0 : v0 = enc xs[j] 0) (e1 : v1 = enc xs[j] 1) (e2 : v2 = enc xs[j] 2) (e3 : v3 = enc xs[j] 3) (e4 : v4 = enc xs[j] 4) :
    RowF 5 enc (((((w.setCell ⟨b, j * 5, none⟩ v0).setCell ⟨b, j * 5 + 1, none⟩ v1).setCell ⟨b, j * 5 + 2, none⟩ v2).setCell ⟨b, j * 5 + 3, none⟩ v3).setCell ⟨b, j * 5 + 4, none⟩ v4) b T xs (j + 1) := by
  subst e0; subst e1; subst e2; subst e3; subst e4
  obtain ⟨cs, h1, h2, h3⟩ := h.is
  refine ⟨_, setCell_heap (setCell_heap (setCell_heap (setCell_heap (setCell_heap h1 _) _) _) _) _, by simpa using h2, fun i hi hij t ht => ?_⟩
  simp only [Array.getElem?_setIfInBounds, Array.size_setIfInBounds]
  by_cases e : j = i
  · subst e
    match t, ht with
    | 0, _ => simp [h2]; omega
    | 1, _ => simp [h2]; omega
    | 2, _ => simp [h2]; omega
    | 3, _ => simp [h2]; omega
    | 4, _ => simp [h2]; omega
  · rw [if_neg (by omega), if_neg (by omega), if_neg (by omega), if_neg (by omega), if_neg (by omega)]
    exact h3 i hi (by omega) t ht

/-- the call's own row, from base on: v holds the list xs -/
def OwnF {α : Type} (n : Nat) (enc : α → Nat → Value) (w : World) (base : Nat) (T : TypeId) (v : Value) (xs : List α) : Prop :=
  ∃ cells, w.ownsRow base T n v xs.length cells ∧ ∀ i (hi : i < xs.length) t, t < n → cells[i * n + t]? = some (enc xs[i] t)
namespace OwnF
variable {α : Type} {n : Nat} {enc : α → Nat → Value} {w w' : World} {base : Nat} {T : TypeId} {v : Value} {xs : List α}
theorem reads (h : OwnF n enc w base T v xs) : FlR n enc w base w.heap.size v xs := by obtain ⟨cells, h1, h2⟩ := h; exact FlR.of_owns h1 h2
theorem keep (h : OwnF n enc w base T v xs) (hk : ∀ k, v.ownBlock = some k → w'.heap[k]? = w.heap[k]?) : OwnF n enc w' base T v xs := by
  obtain ⟨cells, ⟨h1, h2⟩, h3⟩ := h
  refine ⟨cells, ⟨h1, ?_⟩, h3⟩
  rcases h2 with h2 | ⟨g, cap, cur, rfl, hb, hh, r⟩
  · exact .inl h2
  · exact .inr ⟨g, cap, cur, rfl, hb, by rw [hk g rfl]; exact hh, r⟩
theorem lt (h : OwnF n enc w base T v xs) : ∀ k, v.ownBlock = some k → base ≤ k ∧ k < w.heap.size := by obtain ⟨cells, h1, _⟩ := h; exact h1.lt
theorem kp (h : OwnF n enc w base T v xs) {S : Nat → Prop} (k : Kp S w w') (hs : ∀ b, v.ownBlock = some b → ¬ S b) : OwnF n enc w' base T v xs := h.keep fun b hb => k.block b (h.lt b hb).2 (hs b hb)
theorem new (h : OwnF n enc w base T v xs) (k : New w w') : OwnF n enc w' base T v xs := h.kp k (fun _ _ f => f)
theorem mono (h : OwnF n enc w base T v xs) {base' : Nat} (hb : base' ≤ base) : OwnF n enc w base' T v xs := by
  obtain ⟨cells, ⟨h1, h2⟩, h3⟩ := h
  refine ⟨cells, ⟨h1, ?_⟩, h3⟩
  rcases h2 with h2 | ⟨g, cap, cur, rfl, hb', r⟩
  · exact .inl h2
  · exact .inr ⟨g, cap, cur, rfl, by omega, r⟩
/-- nil, or a row of its own -/
theorem form (h : OwnF n enc w base T v xs) : (xs = [] ∧ v = .slice none 0 0) ∨ ∃ b cap cs, v = .slice (some ⟨b, 0, none⟩) xs.length cap ∧ base ≤ b ∧ xs.length ≤ cap ∧ cap ≤ maxLen ∧ w.heap[b]? = some (.cells cs T (0, 0)) ∧ cs.size = cap * n ∧
    ∀ i (hi : i < xs.length) t, t < n → cs[i * n + t]? = some (enc xs[i] t) := by
  obtain ⟨cells, ⟨h1, h2⟩, h3⟩ := h
  rcases h2 with ⟨rfl, h0⟩ | ⟨g, cap, cur, rfl, hb, hh, hn, hm, hs, ht⟩
  · exact .inl ⟨List.eq_nil_of_length_eq_zero h0, rfl⟩
  · refine .inr ⟨g, cap, cur, rfl, hb, hn, hm, hh, hs, fun i hi t htn => ?_⟩
    rw [← h3 i hi t htn, ← ht, List.getElem?_take]
    have hlt : i * n + t < xs.length * n := by
      have : (i + 1) * n ≤ xs.length * n := Nat.mul_le_mul_right _ hi
      rw [Nat.add_mul] at this; omega
    simp [hlt]
end OwnF
theorem RowF.own {α : Type} {n : Nat} {enc : α → Nat → Value} {w : World} {b : Nat} {T : TypeId} {xs : List α} (h : RowF n enc w b T xs xs.length) (hm : xs.length ≤ maxLen) : OwnF n enc w b T (.slice (some ⟨b, 0, none⟩) xs.length xs.length) xs := h.owns hm

/-- what is left of 'left' behind n things -/
def szOf (left : Int) (n : Nat) : Int := if left - n < 0 then -1 else left - n
theorem szOf_lo {left : Int} {n : Nat} (h : left < n) : szOf left n = -1 := by unfold szOf; rw [if_pos (by omega)]
theorem szOf_hi {left : Int} {n : Nat} (h : (n : Int) ≤ left) : szOf left n = left - n := by unfold szOf; rw [if_neg (by omega)]
/-- the numbers k, k+1 .. -/
def marks (k : Int) : Nat → List Int | 0 => [] | n + 1 => k :: marks (k + 1) n
end Go.Proofs.Ytljokgoghphgdaa

/- append onto a row of the call's own, in the words of Flat: one element more; a list more. No program in sight. -/
namespace Go.Proofs.Ytljokgoghphgdaa
open Go.RowKit Kit
set_option linter.unusedVariables false

theorem OwnF.nil {α : Type} {n : Nat} {enc : α → Nat → Value} (w : World) (base : Nat) (T : TypeId) : OwnF n enc w base T (.slice none 0 0) ([] : List α) := ⟨[], World.ownsRow_nil w base T n, fun i hi => absurd hi (Nat.not_lt_zero _)⟩

theorem OwnF.empty {α : Type} {n : Nat} {enc : α → Nat → Value} (w : World) (T : TypeId) {base : Nat} (hb : base ≤ w.heap.size) : OwnF n enc (w.alloc (.cells #[] T)) base T (.slice (some ⟨w.heap.size, 0, none⟩) 0 0) ([] : List α) :=
  ⟨[], ⟨by simp, .inr ⟨w.heap.size, 0, #[], rfl, hb, alloc_heap _ _, Nat.le_refl _, Nat.zero_le _, by simp, by simp⟩⟩, fun i hi => absurd hi (Nat.not_lt_zero _)⟩

theorem OwnF.of_app {α : Type} {n : Nat} {enc : α → Nat → Value} {w : World} {base : Nat} {T : TypeId} {v : Value} {ys zs : List α} {cells news : List Value}
    (h : w.ownsRow base T n v (ys.length + zs.length) (cells ++ news)) (hl : cells.length = ys.length * n) (hc : ∀ i (hi : i < ys.length) t, t < n → cells[i * n + t]? = some (enc ys[i] t))
    (hn : ∀ i (hi : i < zs.length) t, t < n → news[i * n + t]? = some (enc zs[i] t)) : OwnF n enc w base T v (ys ++ zs) := by
  refine ⟨cells ++ news, by rw [List.length_append]; exact h, fun i hi t ht => ?_⟩
  by_cases hlt : i < ys.length
  · have hb : i * n + t < cells.length := by
      have : (i + 1) * n ≤ ys.length * n := Nat.mul_le_mul_right _ hlt
      rw [Nat.add_mul] at this; omega
    rw [List.getElem?_append_left hb, hc i hlt t ht, List.getElem_append_left hlt]
  · have hi2 : i - ys.length < zs.length := by rw [List.length_append] at hi; omega
    have hm : ys.length * n ≤ i * n := Nat.mul_le_mul_right _ (by omega)
    rw [List.getElem?_append_right (by omega), hl, show i * n + t - ys.length * n = (i - ys.length) * n + t by rw [Nat.sub_mul]; omega, hn _ hi2 t ht, List.getElem_append_right (by omega)]

theorem oneI (x : Int) : ∀ t, (encI x t).oneCell' = true := fun _ => rfl
theorem oneN (x : Ins) : ∀ t, (encN x t).oneCell' = true := fun t => by match t with | 0 => rfl | 1 => rfl | 2 => rfl | 3 => rfl | _ + 4 => rfl
theorem size_alloc_le {w : World} {n : Nat} (h : n ≤ w.heap.size) (o : Obj) : n ≤ (w.alloc o).heap.size := by simp; omega

section
variable {P : Program} {w : World}
end
end Go.Proofs.Ytljokgoghphgdaa

/- Contracts of the laws' own helpers on flat slices of ints: sz, to, eq, mark, held. -/
namespace Go.Proofs.Ytljokgoghphgdaa.LawF
open Go.RowKit Kit
set_option linter.unusedVariables false

theorem szIntS (w : World) (a : Option Addr) (n cap : Nat) (left : Int) (hn : n ≤ 9223372036854775807) (h0 : 0 ≤ left) (h1 : left ≤ 1048576) :
    Calls Try.prog 76 #[.slice a n cap, .int .i64 left] w fun e w' => e = .returned (.int .i64 (szOf left n)) ∧ w = w' := by
  by_cases h : left < n
  · have H := Lib.hid (szOf_lo h)
    go_enter Try.func76, Try.ntmps76
    go_wp2
    go_ret
    exact ⟨retI H.out.symm, rfl⟩
  · have H := Lib.hid (szOf_hi (left := left) (n := n) (by omega))
    go_enter Try.func76, Try.ntmps76
    go_wp2
    go_ret
    exact ⟨retI H.out.symm, rfl⟩

theorem infoI : (Try.prog.info? 3).map (fun i => (i.zero, i.size, i.bytes)) = some (some (.int .i64 0), 1, 8) := by kernel_rfl
set_option maxHeartbeats 400000 in
theorem toIntS (w : World) (lo hi : Nat) (s : Value) (xs : List Int) (hs : IntsR w lo hi s xs) (h1 : hi ≤ w.heap.size) (hm : xs.length ≤ 1048576) :
    Calls Try.prog 79 #[s] w fun e w' => ∃ v, e = .returned v ∧ New w w' ∧ OwnF 1 encI w' w.heap.size 3 v xs := by
  obtain ⟨a, c, rfl, hl1⟩ := hs.len
  have hmk := run_mk (P := Try.prog) _ _ _ _ _ Try.underlying23 infoI xs.length (by omega) (by omega)
  go_enter Try.func79, Try.ntmps79
  go_wp2_with fail
  clear hmk
  have hR : RowF 1 encI (w.alloc (.cells (mkCells (.int .i64 0) 1 xs.length) 3)) w.heap.size 3 xs 0 := RowF.zero _ _
  have hA : New w (w.alloc (.cells (mkCells (.int .i64 0) 1 xs.length) 3)) := (Kp.refl _ _).alloc _
  generalize w.alloc (.cells (mkCells (.int .i64 0) 1 xs.length) 3) = wA at *
  go_loopw [4] (fun i wr => ∃ j : Nat, j ≤ xs.length ∧ i = .int .i64 j ∧ New w wr ∧ RowF 1 encI wr w.heap.size 3 xs j) (fun i _ => xs.length - (intOf i).toNat)
  case atStart => exact ⟨0, Nat.zero_le _, rfl, hA, hR⟩
  case round =>
    obtain ⟨j, hj, rfl, hN, hrow⟩ := hrel
    clear hA hR
    by_cases hlt : j < xs.length
    · obtain ⟨b, o, rfl, hb1, hb2, c0⟩ := hs.at j hlt
      have g0 := (hN.cell (b := b) (by omega) (fun f => f) (o + j)).trans c0
      obtain ⟨x0, d0⟩ := hrow.row.cell j (by omega)
      have f0 := hrow.row.free j
      clear c0
      go_wp2
      go_roundw
      case rel => exact ⟨j + 1, by omega, by go_num, hN.setCell (.inr (Nat.le_refl _)) _, hrow.step1 hlt rfl⟩
      case measure => simp [intOf]; omega
    · have hge : xs.length ≤ j := by omega
      have hF : RowF 1 encI wr w.heap.size 3 xs xs.length := by
        have : j = xs.length := by omega
        rw [← this]; exact hrow
      clear hrow
      go_wp2
      go_ret
      exact ⟨_, rfl, hN, hF.own (by unfold maxLen; omega)⟩

set_option maxHeartbeats 400000 in
theorem eqIntS (w : World) (lo hi lo' hi' : Nat) (s t : Value) (xs ys : List Int) (hs : IntsR w lo hi s xs) (ht : IntsR w lo' hi' t ys) :
    Calls Try.prog 82 #[s, t] w fun e w' => e = .returned (.bool (decide (xs = ys))) ∧ ∃ k, w' = w.drewN k := by
  obtain ⟨a, c, rfl, hl1⟩ := hs.len
  obtain ⟨a', c', rfl, hl2⟩ := ht.len
  by_cases hlen : xs.length = ys.length
  · have hL := Lib.hid hlen
    have hq3 : ((xs.length : Int) != (ys.length : Int)) = false := by simp [hlen]
    have hle : ys.length ≤ xs.length := by omega
    have hge : xs.length ≤ ys.length := by omega
    clear hlen
    go_enter Try.func82, Try.ntmps82
    go_wp2_with fail
    go_loopw [5] (fun i wr => ∃ j : Nat, j ≤ xs.length ∧ i = .int .i64 j ∧ (∃ k, wr = w.drewN k) ∧ Hid (decide (xs = ys) = decide (xs.drop j = ys.drop j))) (fun i _ => xs.length - (intOf i).toNat)
    case atStart => exact ⟨0, Nat.zero_le _, rfl, ⟨0, rfl⟩, Lib.hid rfl⟩
    case round =>
      obtain ⟨j, hj, rfl, ⟨k, rfl⟩, hD⟩ := hrel
      by_cases hlt : j < xs.length
      · obtain ⟨b, o, rfl, hb1, hb2, c0⟩ := hs.at j hlt
        obtain ⟨b', o', rfl, hb1', hb2', c0'⟩ := ht.at j (by omega)
        have hlt2 : j < ys.length := by omega
        have hD2 : Hid (decide (xs = ys) = (xs[j] == ys[j] && decide (xs.drop (j + 1) = ys.drop (j + 1)))) := Lib.hid (by
          rw [hD.out, List.drop_eq_getElem_cons hlt, List.drop_eq_getElem_cons hlt2]; simp only [List.cons.injEq, Bool.decide_and]; rfl)
        clear hD hs ht
        generalize xs[j] = x at *
        generalize ys[j] = y at *
        by_cases hxy : x = y
        · subst hxy
          go_wp2_with fail
          go_quiet (fail)
          go_wp2
          go_roundw
          case rel => exact ⟨j + 1, by omega, by go_num, ⟨_, rfl⟩, Lib.hid (by rw [hD2.out]; simp)⟩
          case measure => simp [intOf]; omega
        · have hb : (x != y) = true := by simp [hxy]
          have hb2 : (x == y) = false := by simp [hxy]
          have hfin := Lib.hid (show decide (xs = ys) = false by rw [hD2.out, hb2]; rfl)
          go_wp2_with fail
          go_quiet (fail)
          go_wp2
          go_ret
          exact ⟨retB hfin.out.symm, ⟨_, World.drewN_drewN _ _ _⟩⟩
      · have hfin := Lib.hid (show decide (xs = ys) = true by rw [hD.out, List.drop_of_length_le (by omega), List.drop_of_length_le (by have := hL.out; omega)]; rfl)
        have hge2 : xs.length ≤ j := by omega
        clear hD
        go_wp2
        go_ret
        exact ⟨retB hfin.out.symm, ⟨_, rfl⟩⟩
  · have hq : ((xs.length : Int) != (ys.length : Int)) = true := by simp; omega
    have hfin := Lib.hid (show decide (xs = ys) = false by
      rw [decide_eq_false_iff_not]; intro e; exact hlen (by rw [e]))
    clear hlen
    go_enter Try.func82, Try.ntmps82
    go_wp2
    go_ret
    exact ⟨retB hfin.out.symm, 0, rfl⟩


theorem szInstrS (w : World) (a : Option Addr) (n cap : Nat) (left : Int) (hn : n ≤ 9223372036854775807) (h0 : 0 ≤ left) (h1 : left ≤ 1048576) :
    Calls Try.prog 77 #[.slice a n cap, .int .i64 left] w fun e w' => e = .returned (.int .i64 (szOf left n)) ∧ w = w' := by
  by_cases h : left < n
  · have H := Lib.hid (szOf_lo h)
    go_enter Try.func77, Try.ntmps77
    go_wp2
    go_ret
    exact ⟨retI H.out.symm, rfl⟩
  · have H := Lib.hid (szOf_hi (left := left) (n := n) (by omega))
    go_enter Try.func77, Try.ntmps77
    go_wp2
    go_ret
    exact ⟨retI H.out.symm, rfl⟩

theorem infoInstr : (Try.prog.info? 44).map (fun i => (i.zero, i.size, i.bytes)) = some (some (.agg #[.int .i64 0, .int .i64 0, .int .i64 0, .int .i64 0, .int .i64 0]), 5, 40) := by kernel_rfl
set_option maxHeartbeats 400000 in
theorem toInstr (w : World) (x0 x1 x2 x3 x4 : Int) : Calls Try.prog 115 #[.agg #[.int .i64 x0, .int .i64 x1, .int .i64 x2, .int .i64 x3, .int .i64 x4]] w fun e w' => e = .returned (.agg #[.int .i64 x0, .int .i64 x1, .int .i64 x2, .int .i64 x3, .int .i64 x4]) ∧ New w w' := by
  go_enter Try.func115, Try.ntmps115
  go_wp2
  refine bodyPost_ret (results_cell_row rfl _ _ _ _ _ _ _ rfl (heap_old (heap_at (by simp))) Try.underlying44 rfl (by kernel_rfl)) rfl ⟨rfl, ?_⟩
  exact (((Kp.refl _ _).alloc _).alloc _).alloc _
set_option maxHeartbeats 400000 in
theorem toInstrS (w : World) (lo hi : Nat) (s : Value) (xs : List Ins) (hs : InssR w lo hi s xs) (h1 : hi ≤ w.heap.size) (hm : xs.length ≤ 1048576) :
    Calls Try.prog 80 #[s] w fun e w' => ∃ v, e = .returned v ∧ New w w' ∧ OwnF 5 encN w' w.heap.size 44 v xs := by
  obtain ⟨a, c, rfl, hl1⟩ := hs.len
  have hmk := run_mk (P := Try.prog) _ _ _ _ _ Try.underlying24 infoInstr xs.length (by omega) (by omega)
  go_enter Try.func80, Try.ntmps80
  go_wp2_with fail
  clear hmk
  have hR : RowF 5 encN (w.alloc (.cells (mkCells (.agg #[.int .i64 0, .int .i64 0, .int .i64 0, .int .i64 0, .int .i64 0]) 5 xs.length) 44)) w.heap.size 44 xs 0 := RowF.zero _ _
  have hA : New w (w.alloc (.cells (mkCells (.agg #[.int .i64 0, .int .i64 0, .int .i64 0, .int .i64 0, .int .i64 0]) 5 xs.length) 44)) := (Kp.refl _ _).alloc _
  generalize w.alloc (.cells (mkCells (.agg #[.int .i64 0, .int .i64 0, .int .i64 0, .int .i64 0, .int .i64 0]) 5 xs.length) 44) = wA at *
  go_loopw [4] (fun i wr => ∃ j : Nat, j ≤ xs.length ∧ i = .int .i64 j ∧ New w wr ∧ RowF 5 encN wr w.heap.size 44 xs j) (fun i _ => xs.length - (intOf i).toNat)
  case atStart => exact ⟨0, Nat.zero_le _, rfl, hA, hR⟩
  case round =>
    obtain ⟨j, hj, rfl, hN, hrow⟩ := hrel
    clear hA hR
    by_cases hlt : j < xs.length
    · obtain ⟨b, o, rfl, hb1, hb2, c0, c1, c2, c3, c4⟩ := hs.at j hlt
      have g0 := (hN.cell (b := b) (by omega) (fun f => f) (o + j * 5)).trans c0
      have g1 := (hN.cell (b := b) (by omega) (fun f => f) (o + j * 5 + 1)).trans c1
      have g2 := (hN.cell (b := b) (by omega) (fun f => f) (o + j * 5 + 2)).trans c2
      have g3 := (hN.cell (b := b) (by omega) (fun f => f) (o + j * 5 + 3)).trans c3
      have g4 := (hN.cell (b := b) (by omega) (fun f => f) (o + j * 5 + 4)).trans c4
      clear c0 c1 c2 c3 c4
      go_wp2_with fail
      refine (toInstr _ _ _ _ _ _).mono ?_
      rintro r w1 ⟨rfl, hn⟩
      have hrow1 := hrow.new hn
      obtain ⟨y0, d0⟩ := hrow1.row.cell (j * 5) (by omega)
      obtain ⟨y1, d1⟩ := hrow1.row.cell (j * 5 + 1) (by omega)
      obtain ⟨y2, d2⟩ := hrow1.row.cell (j * 5 + 2) (by omega)
      obtain ⟨y3, d3⟩ := hrow1.row.cell (j * 5 + 3) (by omega)
      obtain ⟨y4, d4⟩ := hrow1.row.cell (j * 5 + 4) (by omega)
      have f0 := hrow1.row.free
      have hN1 : New w w1 := hN.trans hn
      clear g0 g1 g2 g3 g4 hrow hn hN
      go_wp2
      go_roundw
      case rel => exact ⟨j + 1, by omega, by go_num, (((((hN1.setCell (.inr (Nat.le_refl _)) _).setCell (.inr (Nat.le_refl _)) _).setCell (.inr (Nat.le_refl _)) _).setCell (.inr (Nat.le_refl _)) _).setCell (.inr (Nat.le_refl _)) _), hrow1.step5 hlt rfl rfl rfl rfl rfl⟩
      case measure => simp [intOf]; omega
    · have hge : xs.length ≤ j := by omega
      have hF : RowF 5 encN wr w.heap.size 44 xs xs.length := by
        have : j = xs.length := by omega
        rw [← this]; exact hrow
      clear hrow
      go_wp2
      go_ret
      exact ⟨_, rfl, hN, hF.own (by unfold maxLen; omega)⟩
theorem eqInstr (w : World) (x0 x1 x2 x3 x4 u0 u1 u2 u3 u4 : Int) : Calls Try.prog 116 #[.agg #[.int .i64 x0, .int .i64 x1, .int .i64 x2, .int .i64 x3, .int .i64 x4], .agg #[.int .i64 u0, .int .i64 u1, .int .i64 u2, .int .i64 u3, .int .i64 u4]] w fun e w' => e = .returned (.bool (x0 == u0 && x1 == u1 && x2 == u2 && x3 == u3 && x4 == u4)) ∧ New w w' := by
  by_cases h0 : x0 = u0
  · by_cases h1 : x1 = u1
    · by_cases h2 : x2 = u2
      · by_cases h3 : x3 = u3
        · by_cases h4 : x4 = u4
          · subst h0 h1 h2 h3 h4
            go_enter Try.func116, Try.ntmps116
            go_wp2
            go_ret
            exact ⟨retB (by simp), ((Kp.refl _ _).alloc _).alloc _⟩
          · have n4 : (x4 != u4) = true := by simp [h4]
            subst h0 h1 h2 h3
            go_enter Try.func116, Try.ntmps116
            go_wp2
            go_ret
            exact ⟨retB (by simp [h4]), ((Kp.refl _ _).alloc _).alloc _⟩
        · have n3 : (x3 != u3) = true := by simp [h3]
          subst h0 h1 h2
          go_enter Try.func116, Try.ntmps116
          go_wp2
          go_ret
          exact ⟨retB (by simp [h3]), ((Kp.refl _ _).alloc _).alloc _⟩
      · have n2 : (x2 != u2) = true := by simp [h2]
        subst h0 h1
        go_enter Try.func116, Try.ntmps116
        go_wp2
        go_ret
        exact ⟨retB (by simp [h2]), ((Kp.refl _ _).alloc _).alloc _⟩
    · have n1 : (x1 != u1) = true := by simp [h1]
      subst h0
      go_enter Try.func116, Try.ntmps116
      go_wp2
      go_ret
      exact ⟨retB (by simp [h1]), ((Kp.refl _ _).alloc _).alloc _⟩
  · have n0 : (x0 != u0) = true := by simp [h0]
    go_enter Try.func116, Try.ntmps116
    go_wp2
    go_ret
    exact ⟨retB (by simp [h0]), ((Kp.refl _ _).alloc _).alloc _⟩
set_option maxHeartbeats 1000000 in
theorem eqInstrS (w : World) (lo hi lo' hi' : Nat) (s t : Value) (xs ys : List Ins) (hs : InssR w lo hi s xs) (ht : InssR w lo' hi' t ys) (h1 : hi ≤ w.heap.size) (h2 : hi' ≤ w.heap.size) :
    Calls Try.prog 83 #[s, t] w fun e w' => e = .returned (.bool (decide (xs = ys))) ∧ New w w' := by
  obtain ⟨a, c, rfl, hl1⟩ := hs.len
  obtain ⟨a', c', rfl, hl2⟩ := ht.len
  by_cases hlen : xs.length = ys.length
  · have hL := Lib.hid hlen
    have hq3 : ((xs.length : Int) != (ys.length : Int)) = false := by simp [hlen]
    have hle : ys.length ≤ xs.length := by omega
    have hge : xs.length ≤ ys.length := by omega
    clear hlen
    go_enter Try.func83, Try.ntmps83
    go_wp2_with fail
    go_loopw [5] (fun i wr => ∃ j : Nat, j ≤ xs.length ∧ i = .int .i64 j ∧ New w wr ∧ Hid (decide (xs = ys) = decide (xs.drop j = ys.drop j))) (fun i _ => xs.length - (intOf i).toNat)
    case atStart => exact ⟨0, Nat.zero_le _, rfl, Kp.refl _ _, Lib.hid rfl⟩
    case round =>
      obtain ⟨j, hj, rfl, hN, hD⟩ := hrel
      by_cases hlt : j < xs.length
      · obtain ⟨b, o, rfl, hb1, hb2, c0, c1, c2, c3, c4⟩ := hs.at j hlt
        obtain ⟨b', o', rfl, hb1', hb2', c0', c1', c2', c3', c4'⟩ := ht.at j (by omega)
        have hlt2 : j < ys.length := by omega
        have g0 := (hN.cell (b := b) (by omega) (fun f => f) (o + j * 5)).trans c0
        have g1 := (hN.cell (b := b) (by omega) (fun f => f) (o + j * 5 + 1)).trans c1
        have g2 := (hN.cell (b := b) (by omega) (fun f => f) (o + j * 5 + 2)).trans c2
        have g3 := (hN.cell (b := b) (by omega) (fun f => f) (o + j * 5 + 3)).trans c3
        have g4 := (hN.cell (b := b) (by omega) (fun f => f) (o + j * 5 + 4)).trans c4
        have g0' := (hN.cell (b := b') (by omega) (fun f => f) (o' + j * 5)).trans c0'
        have g1' := (hN.cell (b := b') (by omega) (fun f => f) (o' + j * 5 + 1)).trans c1'
        have g2' := (hN.cell (b := b') (by omega) (fun f => f) (o' + j * 5 + 2)).trans c2'
        have g3' := (hN.cell (b := b') (by omega) (fun f => f) (o' + j * 5 + 3)).trans c3'
        have g4' := (hN.cell (b := b') (by omega) (fun f => f) (o' + j * 5 + 4)).trans c4'
        have hD2 : Hid (decide (xs = ys) = ((xs[j].op == ys[j].op && xs[j].a == ys[j].a && xs[j].b == ys[j].b && xs[j].c == ys[j].c && xs[j].d == ys[j].d) && decide (xs.drop (j + 1) = ys.drop (j + 1)))) := Lib.hid (by
          rw [hD.out, List.drop_eq_getElem_cons hlt, List.drop_eq_getElem_cons hlt2]
          generalize xs[j] = x
          generalize ys[j] = y
          cases x; cases y
          rw [Bool.eq_iff_iff]
          simp [List.cons.injEq, and_assoc])
        clear hD hs ht c0 c1 c2 c3 c4 c0' c1' c2' c3' c4'
        generalize xs[j] = x at *
        generalize ys[j] = y at *
        go_wp2_with fail
        set_option maxRecDepth 100000 in go_still_tail 8, (by kernel_rfl)
        change wpList _ _ _ _ _ wr.drew
        go_wp2_with fail
        refine (eqInstr _ _ _ _ _ _ _ _ _ _ _).mono ?_
        rintro r w1 ⟨rfl, hn⟩
        have hN1 : New w w1 := hN.drew.trans hn
        cases hb : (x.op == y.op && x.a == y.a && x.b == y.b && x.c == y.c && x.d == y.d)
        · go_wp2
          go_ret
          exact ⟨retB (by rw [hD2.out, hb]; simp), hN1⟩
        · go_wp2
          go_roundw
          case rel => exact ⟨j + 1, by omega, by go_num, hN1, Lib.hid (by rw [hD2.out, hb]; simp)⟩
          case measure => simp [intOf]; omega
      · have hfin := Lib.hid (show decide (xs = ys) = true by rw [hD.out, List.drop_of_length_le (by omega), List.drop_of_length_le (by have := hL.out; omega)]; rfl)
        have hge2 : xs.length ≤ j := by omega
        clear hD
        go_wp2
        go_ret
        exact ⟨retB hfin.out.symm, hN⟩
  · have hq : ((xs.length : Int) != (ys.length : Int)) = true := by simp; omega
    have hfin := Lib.hid (show decide (xs = ys) = false by
      rw [decide_eq_false_iff_not]; intro e; exact hlen (by rw [e]))
    clear hlen
    go_enter Try.func83, Try.ntmps83
    go_wp2
    go_ret
    exact ⟨retB hfin.out.symm, Kp.refl _ _⟩
end Go.Proofs.Ytljokgoghphgdaa.LawF

/- szIntSS, toIntSS, eqIntSS of laws: lists of lists of ints. Condition: at most 2^20 elements. -/
namespace Go.Proofs.Ytljokgoghphgdaa
open Go.RowKit Kit
set_option linter.unusedVariables false
/-- how much a matrix takes -/
def msz : List (List Int) → Nat | [] => 0 | x :: l => x.length + 1 + msz l
theorem msz_len : ∀ l : List (List Int), l.length ≤ msz l
  | [] => Nat.le_refl _
  | x :: l => by have := msz_len l; simp [msz]; omega
theorem msz_get : ∀ (l : List (List Int)) (i : Nat) (h : i < l.length), l[i].length + 1 ≤ msz l
  | x :: l, 0, _ => by simp [msz]
  | x :: l, i + 1, h => by have := msz_get l i (by simpa using h); simp [msz]; omega
theorem msz_take_drop : ∀ (l : List (List Int)) (j : Nat), msz l = msz (l.take j) + msz (l.drop j)
  | [], j => by simp [msz]
  | e :: es, 0 => by simp [msz]
  | e :: es, j + 1 => by have := msz_take_drop es j; simp [msz]; omega
theorem msz_take_succ (l : List (List Int)) (j : Nat) (h : j < l.length) : msz (l.take (j + 1)) = msz (l.take j) + (l[j].length + 1) := by
  have h1 := msz_take_drop (l.take (j + 1)) j
  rw [List.take_take, Nat.min_eq_left (Nat.le_succ j)] at h1
  rw [h1]; congr 1
  rw [List.take_succ_eq_append_getElem h, List.drop_append_of_le_length (by simp; omega), List.drop_of_length_le (by simp; omega)]
  simp [msz]
/-- the first j rows lie in block b, their elements behind it -/
def FilledM (w : World) (b : Nat) (l : List (List Int)) (j : Nat) : Prop := ∃ S : Nat → Value, ∀ i (hi : i < l.length), i < j → w.cell? ⟨b, i, none⟩ = some (S i) ∧ IntsR w (b + 1) w.heap.size (S i) l[i]
namespace FilledM
theorem zero (w : World) (b : Nat) (l : List (List Int)) : FilledM w b l 0 := ⟨fun _ => .nilIface, fun i _ h => absurd h (Nat.not_lt_zero _)⟩
theorem new {w w' : World} {b : Nat} {l : List (List Int)} {j : Nat} (h : FilledM w b l j) (hb : b < w.heap.size) (k : New w w') : FilledM w' b l j := by
  obtain ⟨S, h⟩ := h
  exact ⟨S, fun i hi hj => ⟨by rw [k.cell hb (fun f => f)]; exact (h i hi hj).1, ((h i hi hj).2.new (Nat.le_refl _) k).mono (Nat.le_refl _) k.size⟩⟩
theorem step {w : World} {b : Nat} {T : TypeId} {l : List (List Int)} {j : Nat} (h : FilledM w b l j) (hr : Row w b (l.length * 1) T) (hj : j < l.length) {s : Value} (hs : IntsR w (b + 1) w.heap.size s l[j]) : FilledM (w.setCell ⟨b, j, none⟩ s) b l (j + 1) := by
  obtain ⟨S, h⟩ := h
  obtain ⟨cs, hh, hn⟩ := hr.is
  have hsz : (w.setCell ⟨b, j, none⟩ s).heap.size = w.heap.size := by simp
  refine ⟨fun i => if i = j then s else S i, fun i hi hij => ?_⟩
  have hc : (w.setCell ⟨b, j, none⟩ s).cell? ⟨b, i, none⟩ = (cs.setIfInBounds j s)[i]? := cell_of_heap (setCell_heap hh s) i
  rw [hsz]
  by_cases e : i = j
  · subst e
    have hz : i < cs.size := by omega
    simp only [↓reduceIte]
    refine ⟨by rw [hc, Array.getElem?_setIfInBounds, if_pos rfl, if_pos hz], hs.set (.inl (by omega)) _ _⟩
  · simp only [if_neg e]
    have h2 := h i hi (by omega)
    refine ⟨by rw [hc, Array.getElem?_setIfInBounds, if_neg (by omega), ← cell_of_heap hh i]; exact h2.1, h2.2.set (.inl (by omega)) _ _⟩
theorem done {w : World} {b : Nat} {l : List (List Int)} (h : FilledM w b l l.length) (hb : b < w.heap.size) (hm : l.length ≤ 9223372036854775807) : MatR w b w.heap.size (.slice (some ⟨b, 0, none⟩) l.length l.length) l := by
  obtain ⟨S, h⟩ := h
  by_cases h0 : 0 < l.length
  · exact .cons b 0 l.length l S h0 (Nat.le_refl _) hb (Nat.le_refl _) hm (fun i hi => by rw [Nat.zero_add]; exact (h i hi hi).1) (fun i hi => ((h i hi hi).2).mono (by omega) (Nat.le_refl _))
  · obtain rfl := List.eq_nil_of_length_eq_zero (by omega : l.length = 0)
    exact .nil _ _
end FilledM
end Go.Proofs.Ytljokgoghphgdaa
namespace Go.Proofs.Ytljokgoghphgdaa.MatF
open Go.RowKit Kit
set_option linter.unusedVariables false
set_option maxHeartbeats 1000000 in
theorem szIntSS (w : World) (lo hi : Nat) (s : Value) (l : List (List Int)) (left : Int) (hs : MatR w lo hi s l) (h0 : 0 ≤ left) (hm : left ≤ 1048576) :
    Calls Try.prog 78 #[s, .int .i64 left] w fun e w' => e = .returned (.int .i64 (szOf left (msz l))) ∧ w = w' := by
  obtain ⟨a, c, rfl, hl1⟩ := hs.len
  have hlen := msz_len l
  by_cases hc0 : ((l.length : Nat) : Int) ≤ left
  · go_enter Try.func78, Try.ntmps78
    go_wp2_with fail
    go_loop [1, 5] (fun q i => ∃ (j : Nat) (L : Int), j ≤ l.length ∧ i = .int .i64 j ∧ q = .int .i64 L ∧ 0 ≤ L ∧ L ≤ 1048576 ∧ Hid (L = left - l.length + j - (msz (l.take j) : Nat))) (fun _ i => l.length - (intOf i).toNat)
    case atStart => exact ⟨0, _, Nat.zero_le _, rfl, rfl, by omega, by omega, Lib.hid (by simp [msz])⟩
    case round =>
      obtain ⟨j, L, hj, rfl, rfl, hL0, hL1, hL⟩ := hrel
      by_cases hlt : j < l.length
      · obtain ⟨b, o, s, rfl, hb1, hb2, c0, hs1⟩ := hs.at' j hlt
        obtain ⟨ra, rc, rfl, hrl⟩ := hs1.len
        have ht := msz_take_succ l j hlt
        have ht2 := msz_take_drop l (j + 1)
        have ht3 := msz_len (l.drop (j + 1))
        rw [List.length_drop] at ht3
        have hT := Lib.hid ht; have hT2 := Lib.hid ht2; have hT3 := Lib.hid ht3
        clear hs1 hs ht ht2 ht3
        generalize l[j] = x at *
        go_wp2_with fail
        refine (LawF.szIntS _ _ _ _ L hrl hL0 hL1).mono ?_
        rintro r w1 ⟨rfl, rfl⟩
        by_cases hc : ((x.length : Nat) : Int) ≤ L
        · rw [szOf_hi hc]
          have hq0 : 0 ≤ L - (x.length : Nat) := by omega
          have hq1 : L - ((x.length : Nat) : Int) ≤ 1048576 := by omega
          have hq2 := Lib.hid (show L - ((x.length : Nat) : Int) = left - l.length + (j + 1 : Nat) - (msz (l.take (j + 1)) : Nat) by have := hL.out; have := hT.out; omega)
          generalize L - ((x.length : Nat) : Int) = q at *
          clear hc hL
          go_wp2
          go_round
          case rel => exact ⟨j + 1, q, by omega, by go_num, rfl, hq0, hq1, hq2⟩
          case measure => simp [intOf]; omega
        · rw [szOf_lo (by omega)]
          have hfin := Lib.hid (szOf_lo (left := left) (n := msz l) (by have := hL.out; have := hT.out; have := hT2.out; have := hT3.out; omega))
          clear hc hL
          go_wp2
          go_ret
          exact ⟨retI hfin.out.symm, rfl⟩
      · have hge : l.length ≤ j := by omega
        have hfin := Lib.hid (show L = szOf left (msz l) by
          have h := hL.out
          rw [List.take_of_length_le hge] at h
          have : j = l.length := by omega
          subst this
          rw [szOf_hi (by omega)]; omega)
        clear hL hs
        go_wp2
        go_ret
        exact ⟨retI hfin.out, rfl⟩
  · have hfin := Lib.hid (szOf_lo (left := left) (n := msz l) (by omega))
    go_enter Try.func78, Try.ntmps78
    go_wp2
    go_ret
    exact ⟨retI hfin.out.symm, rfl⟩
theorem infoM : (Try.prog.info? 23).map (fun i => (i.zero, i.size, i.bytes)) = some (some (.slice none 0 0), 1, 24) := by kernel_rfl
set_option maxHeartbeats 1000000 in
theorem toIntSS (w : World) (lo hi : Nat) (s : Value) (l : List (List Int)) (hs : MatR w lo hi s l) (h1 : hi ≤ w.heap.size) (hm : msz l ≤ 1048576) :
    Calls Try.prog 81 #[s] w fun e w' => ∃ v, e = .returned v ∧ New w w' ∧ MatR w' w.heap.size w'.heap.size v l := by
  obtain ⟨a, c, rfl, hl1⟩ := hs.len
  have hlen : l.length ≤ 1048576 := by have := msz_len l; omega
  have hmk := run_mk (P := Try.prog) _ _ _ _ _ Try.underlying27 infoM l.length (by omega) (by omega)
  go_enter Try.func81, Try.ntmps81
  go_wp2_with fail
  clear hmk
  have hR : Row (w.alloc (.cells (mkCells (.slice none 0 0) 1 l.length) 23)) w.heap.size (l.length * 1) 23 := Row.mk' _ _ _ _ _
  have hA : New w (w.alloc (.cells (mkCells (.slice none 0 0) 1 l.length) 23)) := (Kp.refl _ _).alloc _
  generalize w.alloc (.cells (mkCells (.slice none 0 0) 1 l.length) 23) = wA at *
  go_loopw [4] (fun i wr => ∃ j : Nat, j ≤ l.length ∧ i = .int .i64 j ∧ New w wr ∧ Row wr w.heap.size (l.length * 1) 23 ∧ FilledM wr w.heap.size l j) (fun i _ => l.length - (intOf i).toNat)
  case atStart => exact ⟨0, Nat.zero_le _, rfl, hA, hR, FilledM.zero _ _ _⟩
  case round =>
    obtain ⟨j, hj, rfl, hN, hrow, hF⟩ := hrel
    clear hA hR
    by_cases hlt : j < l.length
    · obtain ⟨b, o, s, rfl, hb1, hb2, c0, hs1⟩ := hs.at' j hlt
      have g0 := (hN.cell (b := b) (by omega) (fun f => f) (o + j)).trans c0
      have k1 : IntsR wr lo hi s l[j] := hs1.new h1 hN
      have hsm : l[j].length ≤ 1048576 := by have := msz_get l j hlt; omega
      clear c0 hs1 hs
      go_wp2_with fail
      refine (LawF.toIntS _ _ _ _ _ k1 (by have := hN.size; omega) hsm).mono ?_
      rintro r w1 ⟨t, rfl, hn, ht⟩
      obtain ⟨ta, tc, rfl, _⟩ := ht.reads.len
      have hrow1 := hrow.new hn
      obtain ⟨x0, d0⟩ := hrow1.cell j (by omega)
      have hfr := hrow1.free
      have hF1 := hF.new hrow.lt hn
      have hN1 : New w w1 := hN.trans hn
      have ht1 := ht.reads.mono (lo' := w.heap.size + 1) (by have := hrow.lt; omega) (Nat.le_refl _)
      clear g0 k1 hrow hF hn ht hN
      go_wp2
      go_roundw
      case rel => exact ⟨j + 1, by omega, by go_num, hN1.setCell (.inr (Nat.le_refl _)) _, hrow1.set _ _, hF1.step hrow1 hlt ht1⟩
      case measure => simp [intOf]; omega
    · have hge : l.length ≤ j := by omega
      have hF2 : FilledM wr w.heap.size l l.length := by
        have : j = l.length := by omega
        rw [← this]; exact hF
      clear hF
      go_wp2
      go_ret
      exact ⟨_, rfl, hN, hF2.done hrow.lt hl1⟩
set_option maxHeartbeats 1000000 in
theorem eqIntSS (w : World) (lo hi lo' hi' : Nat) (s t : Value) (xs ys : List (List Int)) (hs : MatR w lo hi s xs) (ht : MatR w lo' hi' t ys) (h1 : hi ≤ w.heap.size) (h2 : hi' ≤ w.heap.size) :
    Calls Try.prog 84 #[s, t] w fun e w' => e = .returned (.bool (decide (xs = ys))) ∧ ∃ k, w' = w.drewN k := by
  obtain ⟨a, c, rfl, hl1⟩ := hs.len
  obtain ⟨a', c', rfl, hl2⟩ := ht.len
  by_cases hlen : xs.length = ys.length
  · have hL := Lib.hid hlen
    have hq3 : ((xs.length : Int) != (ys.length : Int)) = false := by simp [hlen]
    have hle : ys.length ≤ xs.length := by omega
    have hge : xs.length ≤ ys.length := by omega
    clear hlen
    go_enter Try.func84, Try.ntmps84
    go_wp2_with fail
    go_loopw [5] (fun i wr => ∃ j : Nat, j ≤ xs.length ∧ i = .int .i64 j ∧ (∃ k, wr = w.drewN k) ∧ Hid (decide (xs = ys) = decide (xs.drop j = ys.drop j))) (fun i _ => xs.length - (intOf i).toNat)
    case atStart => exact ⟨0, Nat.zero_le _, rfl, ⟨0, rfl⟩, Lib.hid rfl⟩
    case round =>
      obtain ⟨j, hj, rfl, ⟨k, rfl⟩, hD⟩ := hrel
      by_cases hlt : j < xs.length
      · obtain ⟨b, o, s, rfl, hb1, hb2, c0, q0⟩ := hs.at' j hlt
        obtain ⟨b', o', t, rfl, hb1', hb2', c0', q0'⟩ := ht.at' j (by omega)
        have hlt2 : j < ys.length := by omega
        have hD2 : Hid (decide (xs = ys) = (decide (xs[j] = ys[j]) && decide (xs.drop (j + 1) = ys.drop (j + 1)))) := Lib.hid (by
          rw [hD.out, List.drop_eq_getElem_cons hlt, List.drop_eq_getElem_cons hlt2]; simp only [List.cons.injEq, Bool.decide_and])
        clear hD hs ht
        generalize xs[j] = x at *
        generalize ys[j] = y at *
        have Q := Lib.hid (show ∀ n, Calls Try.prog 82 #[s, t] (w.drewN (k + n)) fun e w' => e = .returned (.bool (decide (x = y))) ∧ ∃ m, w' = w.drewN (k + m) from fun n =>
          (LawF.eqIntS _ _ _ _ _ _ _ _ _ (q0.kp (drewN_kp (fun _ => False) (k + n) (Kp.refl _ _)) h1 (fun _ f => f.elim)) (q0'.kp (drewN_kp (fun _ => False) (k + n) (Kp.refl _ _)) h2 (fun _ f => f.elim))).mono
            fun e w' ⟨he, m, hw⟩ => ⟨he, n + m, by rw [hw, World.drewN_drewN, Nat.add_assoc]⟩)
        clear q0 q0'
        cases hxy : decide (x = y)
        · rw [hxy] at Q
          have hfin := Lib.hid (show decide (xs = ys) = false by rw [hD2.out, hxy]; rfl)
          go_wp2_with fail
          go_quiet ((go_at_call 82; exact Q.out _))
          go_wp2
          go_ret
          exact ⟨retB hfin.out.symm, ⟨_, World.drewN_drewN _ _ _⟩⟩
        · rw [hxy] at Q
          go_wp2_with fail
          go_quiet ((go_at_call 82; exact Q.out _))
          go_wp2
          go_roundw
          case rel => exact ⟨j + 1, by omega, by go_num, ⟨_, rfl⟩, Lib.hid (by rw [hD2.out, hxy]; rfl)⟩
          case measure => simp [intOf]; omega
      · have hfin := Lib.hid (show decide (xs = ys) = true by rw [hD.out, List.drop_of_length_le (by omega), List.drop_of_length_le (by have := hL.out; omega)]; rfl)
        have hge2 : xs.length ≤ j := by omega
        clear hD
        go_wp2
        go_ret
        exact ⟨retB hfin.out.symm, ⟨_, rfl⟩⟩
  · have hq : ((xs.length : Int) != (ys.length : Int)) = true := by simp; omega
    have hfin := Lib.hid (show decide (xs = ys) = false by
      rw [decide_eq_false_iff_not]; intro e; exact hlen (by rw [e]))
    clear hlen
    go_enter Try.func84, Try.ntmps84
    go_wp2
    go_ret
    exact ⟨retB hfin.out.symm, 0, rfl⟩
end Go.Proofs.Ytljokgoghphgdaa.MatF

/- A matrix of the call's own: its row of slices, and each of its rows, in blocks of their own. No conditions but the lengths. -/
namespace Go.Proofs.Ytljokgoghphgdaa
open Go.RowKit Kit
set_option linter.unusedVariables false
def encV : Value → Nat → Value := fun v _ => v
/-- rows in blocks of their own, all of them apart -/
structure RowsO (w : World) (base : Nat) (T : TypeId) (vs : List Value) (l : List (List Int)) : Prop where
  len : vs.length = l.length
  own : ∀ i (h : i < vs.length) (h' : i < l.length), OwnF 1 encI w base T vs[i] l[i]
  apart : vs.Pairwise fun x y => ∀ b, x.ownBlock = some b → y.ownBlock ≠ some b
namespace RowsO
variable {w w' : World} {base : Nat} {T : TypeId} {vs : List Value} {l : List (List Int)}
theorem nil (w : World) (base : Nat) (T : TypeId) : RowsO w base T [] [] := ⟨rfl, fun i h => absurd h (Nat.not_lt_zero _), List.Pairwise.nil⟩
theorem mem (h : RowsO w base T vs l) {v : Value} (hv : v ∈ vs) : ∃ xs, OwnF 1 encI w base T v xs := by
  obtain ⟨i, hi, rfl⟩ := List.getElem_of_mem hv
  exact ⟨_, h.own i hi (by have := h.len; omega)⟩
theorem kp (h : RowsO w base T vs l) {S : Nat → Prop} (k : Kp S w w') (hs : ∀ v ∈ vs, ∀ b, v.ownBlock = some b → ¬ S b) : RowsO w' base T vs l :=
  ⟨h.len, fun i hi h' => (h.own i hi h').kp k (hs _ (List.getElem_mem hi)), h.apart⟩
theorem new (h : RowsO w base T vs l) (k : New w w') : RowsO w' base T vs l := h.kp k (fun _ _ _ _ f => f)
theorem mono (h : RowsO w base T vs l) {base' : Nat} (hb : base' ≤ base) : RowsO w base' T vs l := ⟨h.len, fun i hi h' => (h.own i hi h').mono hb, h.apart⟩
/-- one more row, of a block that the call before did not know -/
theorem snoc (h : RowsO w base T vs l) (k : New w w') (hb : base ≤ w.heap.size) {v : Value} {x : List Int} (hv : OwnF 1 encI w' w.heap.size T v x) : RowsO w' base T (vs ++ [v]) (l ++ [x]) := by
  have h1 := h.new k
  refine ⟨by simp [h.len], fun i hi h' => ?_, ?_⟩
  · by_cases e : i < vs.length
    · have e2 : i < l.length := by have := h.len; omega
      rw [List.getElem_append_left e, List.getElem_append_left e2]; exact h1.own i e e2
    · have e1 : i = vs.length := by simp at hi; omega
      subst e1
      have e3 : (vs ++ [v])[vs.length] = v := by simp
      have e4 : (l ++ [x])[vs.length] = x := by simp [h.len]
      rw [e3, e4]; exact hv.mono hb
  · rw [List.pairwise_append]
    refine ⟨h.apart, List.pairwise_singleton _ _, fun a ha c hc b hab hcb => ?_⟩
    rw [List.mem_singleton] at hc
    subst hc
    obtain ⟨xs, ho⟩ := h.mem ha
    have q1 := (ho.lt b hab).2
    have q2 := (hv.lt b hcb).1
    omega
/-- a row marked anew -/
theorem set (h : RowsO w base T vs l) {j : Nat} (hj : j < vs.length) (k : Kp (fun b => vs[j].ownBlock = some b) w w') {x : List Int} (hv : OwnF 1 encI w' base T vs[j] x) : RowsO w' base T vs (l.set j x) := by
  refine ⟨by simp [h.len], fun i hi h' => ?_, h.apart⟩
  have h2 : i < l.length := by simpa using h'
  by_cases e : j = i
  · subst e; rw [List.getElem_set_self]; exact hv
  · rw [List.getElem_set_ne e]
    refine (h.own i hi h2).kp k fun b hb hS => ?_
    rcases Nat.lt_or_ge j i with q | q
    · exact List.pairwise_iff_getElem.1 h.apart j i hj hi q b hS hb
    · exact List.pairwise_iff_getElem.1 h.apart i j hi hj (by omega) b hb hS
end RowsO
theorem FlR.below {α : Type} {n : Nat} {enc : α → Nat → Value} {w : World} {lo hi hi' : Nat} {v : Value} {xs : List α} (h : FlR n enc w lo hi v xs) (hb : ∀ b, v.ownBlock = some b → b < hi') : FlR n enc w lo hi' v xs := by
  cases h with
  | nil a cap => exact .nil _ _
  | cons b o cap xs h0 hlo hhi hcap hmax c => exact .cons b o cap xs h0 hlo (hb b (by simp [Value.ownBlock])) hcap hmax c
/-- a row of the call's own, below block hi -/
structure OwnR {α : Type} (n : Nat) (enc : α → Nat → Value) (w : World) (lo hi : Nat) (T : TypeId) (v : Value) (xs : List α) : Prop where
  own : OwnF n enc w lo T v xs
  top : ∀ b, v.ownBlock = some b → b < hi
namespace OwnR
variable {α : Type} {n : Nat} {enc : α → Nat → Value} {w w' : World} {lo hi : Nat} {T : TypeId} {v : Value} {xs : List α}
theorem of (h : OwnF n enc w lo T v xs) : OwnR n enc w lo w.heap.size T v xs := ⟨h, fun b hb => (h.lt b hb).2⟩
theorem reads (h : OwnR n enc w lo hi T v xs) : FlR n enc w lo hi v xs := h.own.reads.below h.top
theorem kp (h : OwnR n enc w lo hi T v xs) {S : Nat → Prop} (k : Kp S w w') (hs : ∀ b, S b → b < lo ∨ hi ≤ b) : OwnR n enc w' lo hi T v xs :=
  ⟨h.own.kp k (fun b hb hS => by have := h.own.lt b hb; have := h.top b hb; have := hs b hS; omega), h.top⟩
theorem new (h : OwnR n enc w lo hi T v xs) (hh : hi ≤ w.heap.size) (k : New w w') : OwnR n enc w' lo hi T v xs := h.kp k (fun _ f => f.elim)
theorem mono (h : OwnR n enc w lo hi T v xs) {lo' hi' : Nat} (h1 : lo' ≤ lo) (h2 : hi ≤ hi') : OwnR n enc w lo' hi' T v xs := ⟨h.own.mono h1, fun b hb => by have := h.top b hb; omega⟩
end OwnR
/-- a matrix of the call's own, in blocks lo .. hi - 1 -/
def MatO (w : World) (lo hi : Nat) (TO T : TypeId) (v : Value) (l : List (List Int)) : Prop := ∃ vs, OwnR 1 encV w lo hi TO v vs ∧ RowsO w lo T vs l ∧ (∀ x ∈ vs, ∀ b, x.ownBlock = some b → b < hi) ∧ ∀ x ∈ vs, ∀ b, v.ownBlock = some b → x.ownBlock ≠ some b
namespace MatO
variable {w w' : World} {lo hi : Nat} {TO T : TypeId} {v : Value} {l : List (List Int)}
theorem reads (h : MatO w lo hi TO T v l) : MatR w lo hi v l := by
  obtain ⟨vs, h1, h2, h3, _⟩ := h
  have hr := h1.reads
  have hl := h2.len
  cases hr with
  | nil a cap =>
    have e : l = [] := List.eq_nil_of_length_eq_zero (by simpa using hl.symm)
    subst e; exact .nil _ _
  | cons b o cap xs h0 hlo hhi hcap hmax c =>
    rw [hl]
    refine .cons b o cap l (fun i => vs.getD i .nilIface) (by omega) hlo hhi (by omega) hmax (fun i hi => ?_) (fun i hi => ?_)
    · have := c i (by omega) 0 (by omega)
      rw [Nat.mul_one, Nat.add_zero] at this
      rw [this, List.getD_eq_getElem?_getD, List.getElem?_eq_getElem (by omega)]; rfl
    · have := (h2.own i (by omega) hi).reads.below (h3 _ (List.getElem_mem (by omega)))
      rw [List.getD_eq_getElem?_getD, List.getElem?_eq_getElem (by omega)]; exact this
theorem mono (h : MatO w lo hi TO T v l) {lo' hi' : Nat} (hb : lo' ≤ lo) (ht : hi ≤ hi') : MatO w lo' hi' TO T v l := by
  obtain ⟨vs, h1, h2, h3, h4⟩ := h
  exact ⟨vs, h1.mono hb ht, h2.mono hb, fun x hx b hb => by have := h3 x hx b hb; omega, h4⟩
/-- blocks beside the matrix were turned -/
theorem kp (h : MatO w lo hi TO T v l) {S : Nat → Prop} (k : Kp S w w') (hs : ∀ b, S b → b < lo ∨ hi ≤ b) : MatO w' lo hi TO T v l := by
  obtain ⟨vs, h1, h2, h3, h4⟩ := h
  refine ⟨vs, h1.kp k hs, h2.kp k fun x hx b hb hS => ?_, h3, h4⟩
  obtain ⟨xs, ho⟩ := h2.mem hx
  have := ho.lt b hb; have := h3 x hx b hb; have := hs b hS; omega
theorem new (h : MatO w lo hi TO T v l) (hh : hi ≤ w.heap.size) (k : New w w') : MatO w' lo hi TO T v l := h.kp k (fun _ f => f.elim)
theorem of (vs : List Value) (h1 : OwnF 1 encV w lo TO v vs) (h2 : RowsO w lo T vs l) (h4 : ∀ x ∈ vs, ∀ b, v.ownBlock = some b → x.ownBlock ≠ some b) : MatO w lo w.heap.size TO T v l :=
  ⟨vs, OwnR.of h1, h2, fun x hx b hb => by obtain ⟨xs, ho⟩ := h2.mem hx; exact (ho.lt b hb).2, h4⟩
end MatO
/-- a matrix being filled: the row of slices lies in block b, the first j rows behind it -/
def FilledO (w : World) (b : Nat) (TO T : TypeId) (l : List (List Int)) (j : Nat) : Prop := ∃ vs, vs.length = l.length ∧ RowF 1 encV w b TO vs j ∧ RowsO w (b + 1) T (vs.take j) (l.take j)
namespace FilledO
variable {w w' : World} {b : Nat} {TO T : TypeId} {l : List (List Int)} {j : Nat}
theorem row (h : FilledO w b TO T l j) : Row w b (l.length * 1) TO := by
  obtain ⟨vs, h1, h2, _⟩ := h
  rw [← h1]; exact h2.row
theorem zero {w : World} (TO T : TypeId) (l : List (List Int)) (z : Value) : FilledO (w.alloc (.cells (mkCells z 1 l.length) TO)) w.heap.size TO T l 0 := by
  have := RowF.zero (n := 1) (enc := encV) (T := TO) (xs := List.replicate l.length z) w z
  rw [List.length_replicate] at this
  exact ⟨List.replicate l.length z, by simp, this, by simpa using RowsO.nil _ _ _⟩
theorem new (h : FilledO w b TO T l j) (k : New w w') : FilledO w' b TO T l j := by
  obtain ⟨vs, h1, h2, h3⟩ := h
  exact ⟨vs, h1, h2.new k, h3.new k⟩
/-- the row of the next call is stored -/
theorem step (h : FilledO w b TO T l j) (hj : j < l.length) (k : New w w') {v : Value} (hv : OwnF 1 encI w' w.heap.size T v l[j]) : FilledO (w'.setCell ⟨b, j, none⟩ v) b TO T l (j + 1) := by
  obtain ⟨vs, h1, h2, h3⟩ := h
  have hb := h2.row.lt
  have h4 := h3.snoc k (by omega) hv
  have hj' : j < vs.length := by omega
  have hs : Kp (fun x => x = b) w' (w'.setCell ⟨b, j, none⟩ v) := Kp.setCell (Kp.refl (fun x => x = b) w') (.inl rfl) v
  refine ⟨vs.set j v, by simpa using h1, ?_, ?_⟩
  · obtain ⟨cs, q1, q2, q3⟩ := (h2.new k).is
    have : RowF 1 encV w' b TO (vs.set j v) j := ⟨cs, q1, by simpa using q2, fun i hi hij t ht => by
      have := q3 i (by simpa using hi) hij t ht
      rw [List.getElem_set_ne (by omega)]; exact this⟩
    exact this.step1 (by simpa using hj') (by simp [encV])
  · have e1 : (vs.set j v).take (j + 1) = vs.take j ++ [v] := by
      rw [List.take_succ_eq_append_getElem (by simpa using hj'), List.take_set_of_le (Nat.le_refl _)]; simp
    rw [e1, List.take_succ_eq_append_getElem hj]
    exact h4.kp hs fun x hx c hc hS => by
      obtain ⟨xs, ho⟩ := h4.mem hx
      have := (ho.lt c hc).1
      omega
theorem done (h : FilledO w b TO T l l.length) (hm : l.length ≤ maxLen) : MatO w b w.heap.size TO T (.slice (some ⟨b, 0, none⟩) l.length l.length) l := by
  obtain ⟨vs, h1, h2, h3⟩ := h
  rw [List.take_of_length_le (by omega), List.take_of_length_le (Nat.le_refl _)] at h3
  rw [← h1] at h2 hm
  refine MatO.of vs (by rw [← h1]; exact h2.own hm) (h3.mono (by omega)) fun x hx c hc hxc => ?_
  obtain ⟨xs, ho⟩ := h3.mem hx
  have q := (ho.lt c hxc).1
  have : b = c := by simpa [Value.ownBlock] using hc
  omega
end FilledO
namespace MatO
open Kit
set_option maxHeartbeats 1000000 in
theorem toIntSS (w : World) (lo hi : Nat) (s : Value) (l : List (List Int)) (hs : MatR w lo hi s l) (h1 : hi ≤ w.heap.size) (hm : msz l ≤ 1048576) :
    Calls Try.prog 81 #[s] w fun e w' => ∃ v, e = .returned v ∧ New w w' ∧ MatO w' w.heap.size w'.heap.size 23 3 v l := by
  obtain ⟨a, c, rfl, hl1⟩ := hs.len
  have hlen : l.length ≤ 1048576 := by have := msz_len l; omega
  have hmk := run_mk (P := Try.prog) _ _ _ _ _ Try.underlying27 MatF.infoM l.length (by omega) (by omega)
  go_enter Try.func81, Try.ntmps81
  go_wp2_with fail
  clear hmk
  have hR : FilledO (w.alloc (.cells (mkCells (.slice none 0 0) 1 l.length) 23)) w.heap.size 23 3 l 0 := FilledO.zero _ _ _ _
  have hA : New w (w.alloc (.cells (mkCells (.slice none 0 0) 1 l.length) 23)) := (Kp.refl _ _).alloc _
  generalize w.alloc (.cells (mkCells (.slice none 0 0) 1 l.length) 23) = wA at *
  go_loopw [4] (fun i wr => ∃ j : Nat, j ≤ l.length ∧ i = .int .i64 j ∧ New w wr ∧ FilledO wr w.heap.size 23 3 l j) (fun i _ => l.length - (intOf i).toNat)
  case atStart => exact ⟨0, Nat.zero_le _, rfl, hA, hR⟩
  case round =>
    obtain ⟨j, hj, rfl, hN, hF⟩ := hrel
    clear hA hR
    have hrow := hF.row
    by_cases hlt : j < l.length
    · obtain ⟨b, o, s, rfl, hb1, hb2, c0, hs1⟩ := hs.at' j hlt
      have g0 := (hN.cell (b := b) (by omega) (fun f => f) (o + j)).trans c0
      have k1 : IntsR wr lo hi s l[j] := hs1.new h1 hN
      have hsm : l[j].length ≤ 1048576 := by have := msz_get l j hlt; omega
      clear c0 hs1 hs
      go_wp2_with fail
      refine (LawF.toIntS _ _ _ _ _ k1 (by have := hN.size; omega) hsm).mono ?_
      rintro r w1 ⟨t, rfl, hn, ht⟩
      obtain ⟨ta, tc, rfl, _⟩ := ht.reads.len
      have hrow1 := hrow.new hn
      obtain ⟨x0, d0⟩ := hrow1.cell j (by omega)
      have hfr := hrow1.free
      have hN1 : New w w1 := hN.trans hn
      have hF1 := hF.step hlt hn ht
      clear g0 k1 hrow hF hn ht hN
      go_wp2
      go_roundw
      case rel => exact ⟨j + 1, by omega, by go_num, hN1.setCell (.inr (Nat.le_refl _)) _, hF1⟩
      case measure => simp [intOf]; omega
    · have hge : l.length ≤ j := by omega
      have hF2 : FilledO wr w.heap.size 23 3 l l.length := by
        have : j = l.length := by omega
        rw [← this]; exact hF
      clear hF
      go_wp2
      go_ret
      exact ⟨_, rfl, hN, hF2.done (by unfold maxLen; omega)⟩
end MatO
end Go.Proofs.Ytljokgoghphgdaa

/- append of a whole row, or of one element, to a row of the call's own: at an operation, in a list, at a step of a region that draws; with the word where the new row lies. No program in sight. -/
namespace Go.Proofs.Ytljokgoghphgdaa
open Go.RowKit Kit
set_option linter.unusedVariables false
def cellsOf {α : Type} (n : Nat) (enc : α → Nat → Value) (l : List α) : List Value := (List.range (l.length * n)).map fun j => match l[j / n]? with | some x => enc x (j % n) | none => .nilIface
section
variable {α : Type} {n : Nat} {enc : α → Nat → Value}
theorem cellsOf_length (l : List α) : (cellsOf n enc l).length = l.length * n := by simp [cellsOf]
theorem cellsOf_at (l : List α) (j : Nat) (hn : 0 < n) (h : j < l.length * n) : ∃ hi : j / n < l.length, (cellsOf n enc l)[j]? = some (enc l[j / n] (j % n)) := by
  have hi : j / n < l.length := Nat.div_lt_of_lt_mul (by rw [Nat.mul_comm]; exact h)
  refine ⟨hi, ?_⟩
  unfold cellsOf
  rw [List.getElem?_map, List.getElem?_range h]
  simp [List.getElem?_eq_getElem hi]
theorem cellsOf_get (l : List α) (i t : Nat) (h : i < l.length) (ht : t < n) : (cellsOf n enc l)[i * n + t]? = some (enc l[i] t) := by
  have hlt : i * n + t < l.length * n := by
    have : (i + 1) * n ≤ l.length * n := Nat.mul_le_mul_right _ h
    rw [Nat.add_mul] at this; omega
  obtain ⟨hi, e⟩ := cellsOf_at (enc := enc) l (i * n + t) (by omega) hlt
  have e1 : (i * n + t) / n = i := by rw [Nat.mul_comm, Nat.mul_add_div (by omega), Nat.div_eq_of_lt ht]; omega
  have e2 : (i * n + t) % n = t := by rw [Nat.mul_comm, Nat.mul_add_mod, Nat.mod_eq_of_lt ht]
  rw [e]; simp only [e1, e2]
variable {P : Program} {w : World}
theorem run_append_none (base : Nat) (t ty e : TypeId) (i : TypeInfo) (size : Nat) (ht : P.underlying t = some (.slice e)) (hi : P.info? e = some i)
    (v : Value) (n : Nat) (xs : List Value) (hown : w.ownsRow base e size v n xs) (cap : Nat) :
    (Builtin.append_ #[t, t] ty #[v, .slice none 0 cap]).run P w = .ok v w := by
  rcases hown.2 with ⟨rfl, rfl⟩ | ⟨g, cap', cur, rfl, _, _, hnc, _⟩
  · simp [Builtin.append_, run_underlying ht, sizeOf, typeInfo, hi, Builtin.lenOf, Builtin.firstCells]
  · simp [Builtin.append_, run_underlying ht, sizeOf, typeInfo, hi, Builtin.lenOf, Builtin.firstCells, hnc, storeCells]
theorem run_pushes (t ty : TypeId) (base : Nat) (e : TypeId) (z : Value) (bytes : Nat) (ht : P.underlying t = some (.slice e)) (hinfo : (P.info? e).map (fun i => (i.zero, i.size, i.bytes)) = some (some z, n, bytes)) (hzs : z.cells.size = n) (hn : 0 < n)
    (v : Value) (ys : List α) (hown : OwnF n enc w base e v ys) (xv : Value) (zs : List α) {lo hi : Nat} (hsrc : FlR n enc w lo hi xv zs) (h1 : ∀ y ∈ zs, ∀ t, (enc y t).oneCell' = true)
    (hlen : (ys.length + zs.length) * bytes ≤ 140737488355328) (h63 : ys.length + zs.length ≤ 9223372036854775807) (hbase : base ≤ w.heap.size) :
    ∃ v' w', (Builtin.append_ #[t, t] ty #[v, xv]).run P w = .ok v' w' ∧ OwnF n enc w' base e v' (ys ++ zs) ∧ Kp (fun k => v.ownBlock = some k) w w' ∧ (v'.ownBlock = v.ownBlock ∨ v'.ownBlock = some w.heap.size) := by
  obtain ⟨i, hi, hz0, hz1, hz2⟩ := info_parts hinfo
  obtain ⟨cells, ho1, hc⟩ := id hown
  have main : ∀ (ad : Addr) (c : Nat), (∀ j u, (cellsOf n enc zs)[j]? = some u → w.cell? (ad.add j) = some u) → ∃ v' w', (Builtin.append_ #[t, t] ty #[v, .slice (some ad) zs.length c]).run P w = .ok v' w' ∧ OwnF n enc w' base e v' (ys ++ zs) ∧ Kp (fun k => v.ownBlock = some k) w w' ∧ (v'.ownBlock = v.ownBlock ∨ v'.ownBlock = some w.heap.size) := by
    intro ad c hcl
    obtain ⟨v', w', hr, h2, h3, _, h5⟩ := run_append_own_at (P := P) w base t ty e i z n bytes ht hi hz0 hz1 hz2 hzs hn v ys.length cells ho1 ad zs.length c (cellsOf n enc zs) (cellsOf_length zs) hcl (by
      intro u hu
      obtain ⟨j, hj, rfl⟩ := List.getElem_of_mem hu
      rw [cellsOf_length] at hj
      obtain ⟨hi', e'⟩ := cellsOf_at (enc := enc) zs j hn hj
      rw [List.getElem?_eq_getElem (by rw [cellsOf_length]; exact hj)] at e'
      rw [Option.some.inj e']; exact h1 _ (List.getElem_mem _) _) (by unfold maxLen; omega) hlen hbase
    exact ⟨v', w', hr, OwnF.of_app h2 ho1.1 hc (fun i hi t ht => cellsOf_get zs i t hi ht), ⟨h3.os, h3.tape, h3.output, h3.size, fun k hk hs => h3.block k hk (fun e => hs e.symm)⟩, h5⟩
  cases hsrc with
  | nil a cap =>
    cases a with
    | none => exact ⟨v, w, run_append_none base t ty e i n ht hi v ys.length cells ho1 cap, by rw [List.append_nil]; exact hown, Kp.refl _ _, .inl rfl⟩
    | some ad => exact main ad cap (by intro j u hu; simp [cellsOf] at hu)
  | cons b o cap zs h0 hlo hhi hcap hmax c =>
    refine main ⟨b, o, none⟩ cap fun j u hu => ?_
    by_cases hj : j < zs.length * n
    · obtain ⟨hi', e'⟩ := cellsOf_at (enc := enc) zs j hn hj
      rw [e'] at hu
      cases hu
      have := c (j / n) hi' (j % n) (Nat.mod_lt _ hn)
      rw [Go.WideShapes.add_plain]
      rw [show o + j = o + j / n * n + j % n by rw [Nat.add_assoc, Nat.div_add_mod' j n]]
      exact this
    · rw [List.getElem?_eq_none (by rw [cellsOf_length]; omega)] at hu; cases hu
/-- at an operation -/
theorem wp_pushes {o : Oper} {a : Act} {K : Act → World → Prop} {Q : Exit → Act → World → Prop} (s x : Operand) (t : TypeId)
    (ho : o.op = .call { callee := .builtin .append, args := #[s, x], argTypes := #[t, t] })
    (base : Nat) (e : TypeId) (z : Value) (bytes : Nat) (ht : P.underlying t = some (.slice e)) (hinfo : (P.info? e).map (fun i => (i.zero, i.size, i.bytes)) = some (some z, n, bytes)) (hzs : z.cells.size = n) (hn : 0 < n)
    (v : Value) (ys : List α) (hs : a.eval s = v) (hown : OwnF n enc w base e v ys) (xv : Value) (zs : List α) {lo hi : Nat} (hx : a.eval x = xv) (hsrc : FlR n enc w lo hi xv zs) (h1 : ∀ y ∈ zs, ∀ t, (enc y t).oneCell' = true)
    (hlen : (ys.length + zs.length) * bytes ≤ 140737488355328) (h63 : ys.length + zs.length ≤ 9223372036854775807) (hbase : base ≤ w.heap.size)
    (h : ∀ v' w', OwnF n enc w' base e v' (ys ++ zs) → Kp (fun k => v.ownBlock = some k) w w' → (v'.ownBlock = v.ownBlock ∨ v'.ownBlock = some w.heap.size) → K (a.put o.dst v') w') : o.wp P a w K Q := by
  obtain ⟨v', w', hr, h2, h3, h4⟩ := run_pushes (P := P) t o.type base e z bytes ht hinfo hzs hn v ys hown xv zs hsrc h1 hlen h63 hbase
  unfold Oper.wp execOp
  simp only [ho, resolve, invoke, builtin, Sem.run_bind, Sem.run_pure, Result.andThen_ok, List.map_toArray, List.map_cons, List.map_nil, hs, hx, hr]
  exact h v' w' h2 h3 h4
/-- in a list -/
theorem wpList_pushesN {ops : Array Oper} {rest : List Oper} {o : Oper} {a : Act} {Q : Exit → Act → World → Prop} (hgd : o.guard = none) (s x : Operand) (t : TypeId)
    (ho : o.op = .call { callee := .builtin .append, args := #[s, x], argTypes := #[t, t] })
    (base : Nat) (e : TypeId) (z : Value) (bytes : Nat) (ht : P.underlying t = some (.slice e)) (hinfo : (P.info? e).map (fun i => (i.zero, i.size, i.bytes)) = some (some z, n, bytes)) (hzs : z.cells.size = n) (hn : 0 < n)
    (v : Value) (ys : List α) (hs : a.eval s = v) (hown : OwnF n enc w base e v ys) (xv : Value) (zs : List α) {lo hi : Nat} (hx : a.eval x = xv) (hsrc : FlR n enc w lo hi xv zs) (h1 : ∀ y ∈ zs, ∀ t, (enc y t).oneCell' = true)
    (hlen : (ys.length + zs.length) * bytes ≤ 140737488355328) (h63 : ys.length + zs.length ≤ 9223372036854775807) (hbase : base ≤ w.heap.size)
    (h : ∀ v' w', OwnF n enc w' base e v' (ys ++ zs) → Kp (fun k => v.ownBlock = some k) w w' → (v'.ownBlock = v.ownBlock ∨ v'.ownBlock = some w.heap.size) → wpList P ops Q rest (a.put o.dst v') w') : wpList P ops Q (o :: rest) a w :=
  wpList_plain hgd fun _ hK => wp_pushes s x t ho base e z bytes ht hinfo hzs hn v ys hs hown xv zs hx hsrc h1 hlen h63 hbase fun v' w' h2 h3 h4 => hK _ _ (h v' w' h2 h3 h4)
/-- at a step of a region that draws -/
theorem step_pushes {ops : Array Oper} {o : Oper} {a : Act} {K : Act → World → Prop} {Q : Exit → Act → World → Prop} {E : Prop} (hgd : o.guard = none) (s x : Operand) (t : TypeId)
    (ho : o.op = .call { callee := .builtin .append, args := #[s, x], argTypes := #[t, t] })
    (base : Nat) (e : TypeId) (z : Value) (bytes : Nat) (ht : P.underlying t = some (.slice e)) (hinfo : (P.info? e).map (fun i => (i.zero, i.size, i.bytes)) = some (some z, n, bytes)) (hzs : z.cells.size = n) (hn : 0 < n)
    (v : Value) (ys : List α) (hs : a.eval s = v) (hown : OwnF n enc w base e v ys) (xv : Value) (zs : List α) {lo hi : Nat} (hx : a.eval x = xv) (hsrc : FlR n enc w lo hi xv zs) (h1 : ∀ y ∈ zs, ∀ t, (enc y t).oneCell' = true)
    (hlen : (ys.length + zs.length) * bytes ≤ 140737488355328) (h63 : ys.length + zs.length ≤ 9223372036854775807) (hbase : base ≤ w.heap.size)
    (h : ∀ v' w', OwnF n enc w' base e v' (ys ++ zs) → Kp (fun k => v.ownBlock = some k) w w' → (v'.ownBlock = v.ownBlock ∨ v'.ownBlock = some w.heap.size) → K (a.put o.dst v') w') :
    if Region.wanted o (yielded ops a.tmps) = true then Oper.wp P o a w K Q else E := by
  have hw : Region.wanted o (yielded ops a.tmps) = true := by simp [Region.wanted, hgd]
  rw [if_pos hw]
  exact wp_pushes s x t ho base e z bytes ht hinfo hzs hn v ys hs hown xv zs hx hsrc h1 hlen h63 hbase h
/-- a block just laid is read as a row of one element -/
theorem FlR.one {b : Nat} {y : α} (hc : ∀ t, t < n → w.cell? ⟨b, t, none⟩ = some (enc y t)) : FlR n enc w b (b + 1) (.slice (some ⟨b, 0, none⟩) 1 1) [y] := by
  refine .cons b 0 1 [y] (by simp) (Nat.le_refl _) (by omega) (by simp) (by omega) fun i hi t ht => ?_
  obtain rfl : i = 0 := by simpa using hi
  simpa using hc t ht
end
/-- a matrix of the call's own, one row more: the row is new, then the row of slices is appended to -/
theorem MatO.grow {w : World} {lo : Nat} {TO T : TypeId} {v : Value} {l : List (List Int)} {hi : Nat} (h : MatO w lo hi TO T v l) (hlo : lo ≤ w.heap.size) :
    ∃ vs, OwnF 1 encV w lo TO v vs ∧ vs.length = l.length ∧ ∀ (w1 w2 : World) (v' r : Value) (x : List Int), New w w1 → OwnF 1 encI w1 w.heap.size T r x → Kp (fun k => v.ownBlock = some k) w1 w2 →
      (v'.ownBlock = v.ownBlock ∨ v'.ownBlock = some w1.heap.size) → OwnF 1 encV w2 lo TO v' (vs ++ [r]) → MatO w2 lo w2.heap.size TO T v' (l ++ [x]) := by
  obtain ⟨vs, h1, h2, h3, h4⟩ := h
  refine ⟨vs, h1.own, h2.len, fun w1 w2 v' r x k1 hr k2 hat hv' => ?_⟩
  have h2' := h2.snoc k1 hlo hr
  have hvb : ∀ b, v.ownBlock = some b → lo ≤ b ∧ b < w.heap.size := fun b hb => h1.own.lt b hb
  have hrb : ∀ b, r.ownBlock = some b → w.heap.size ≤ b ∧ b < w1.heap.size := fun b hb => hr.lt b hb
  refine MatO.of (vs ++ [r]) hv' (h2'.kp k2 ?_) ?_
  · intro y hy b hb hs
    rcases List.mem_append.1 hy with q | q
    · exact h4 y q b hs hb
    · rw [List.mem_singleton] at q
      subst q
      have := hvb b hs; have := hrb b hb; omega
  · intro y hy b hb hyb
    rcases hat with e | e
    · rw [e] at hb
      rcases List.mem_append.1 hy with q | q
      · exact h4 y q b hb hyb
      · rw [List.mem_singleton] at q
        subst q
        have := hvb b hb; have := hrb b hyb; omega
    · rw [e] at hb
      cases hb
      rcases List.mem_append.1 hy with q | q
      · obtain ⟨xs, ho⟩ := h2.mem q
        have := (ho.lt _ hyb).2; have := k1.size; omega
      · rw [List.mem_singleton] at q
        subst q
        have := hrb _ hyb; omega
theorem MatO.nil (w : World) (lo hi : Nat) (TO T : TypeId) : MatO w lo hi TO T (.slice none 0 0) [] :=
  ⟨[], ⟨OwnF.nil _ _ _, fun b hb => by simp [Value.ownBlock] at hb⟩, RowsO.nil _ _ _, fun x hx => by simp at hx, fun x hx => by simp at hx⟩
end Go.Proofs.Ytljokgoghphgdaa

/- append of a whole row to a row of the call's own. Condition: the room that the model asks. -/
namespace Go.Proofs.Ytljokgoghphgdaa
open Go.RowKit Kit
set_option linter.unusedVariables false
section
variable {P : Program} {w : World}
theorem wpList_pushes {ops : Array Oper} {rest : List Oper} {o : Oper} {a : Act} {Q : Exit → Act → World → Prop} {α : Type} {enc : α → Nat → Value} (hgd : o.guard = none) (s x : Operand) (t : TypeId)
    (ho : o.op = .call { callee := .builtin .append, args := #[s, x], argTypes := #[t, t] })
    (base : Nat) (e : TypeId) (z : Value) (bytes : Nat) (ht : P.underlying t = some (.slice e)) (hinfo : (P.info? e).map (fun i => (i.zero, i.size, i.bytes)) = some (some z, 1, bytes)) (hzs : z.cells.size = 1)
    (v : Value) (ys : List α) (hs : a.eval s = v) (hown : OwnF 1 enc w base e v ys)
    (xv : Value) (zs : List α) {lo : Nat} {e2 : TypeId} (hx : a.eval x = xv) (hsrc : OwnF 1 enc w lo e2 xv zs) (h1 : ∀ y ∈ zs, (enc y 0).oneCell' = true)
    (hlen : (ys.length + zs.length) * bytes ≤ 140737488355328) (h63 : ys.length + zs.length ≤ 9223372036854775807) (hbase : base ≤ w.heap.size)
    (h : ∀ v' w', OwnF 1 enc w' base e v' (ys ++ zs) → Kp (fun k => v.ownBlock = some k) w w' → wpList P ops Q rest (a.put o.dst v') w') : wpList P ops Q (o :: rest) a w := by
  obtain ⟨i, hi, hz0, hz1, hz2⟩ := info_parts hinfo
  obtain ⟨cells, ho1, hc⟩ := id hown
  rcases hsrc.form with ⟨rfl, rfl⟩ | ⟨b, cap, cs, rfl, hb, hlc, hcm, hh, hcs, hcc⟩
  · exact wpList_append_own_none hgd s x t ho base e i 1 ht hi v ys.length cells hs ho1 hx (h v w (by rw [List.append_nil]; exact hown) (Kp.refl _ _))
  · refine wpList_append_own w hgd s x t ho base e i z 1 bytes ht hi hz0 hz1 hz2 hzs (by omega) v ys.length cells hs ho1 ⟨b, 0, none⟩ zs.length cap (zs.map fun y => enc y 0) hx (by simp) ?_ ?_ (by unfold maxLen; omega) hlen hbase ?_
    · intro j u hu
      rw [List.getElem?_map] at hu
      by_cases hj : j < zs.length
      · rw [List.getElem?_eq_getElem hj] at hu
        simp at hu
        subst hu
        have := hcc j hj 0 (by omega)
        rw [Nat.mul_one, Nat.add_zero] at this
        rw [Go.WideShapes.add_plain, Nat.zero_add]; exact (Kit.cell_of_heap hh j).trans this
      · rw [List.getElem?_eq_none (by omega)] at hu; simp at hu
    · intro u hu
      obtain ⟨y, hy, rfl⟩ := List.mem_map.1 hu
      exact h1 y hy
    · intro v' w' h2 h3 _
      refine h v' w' (OwnF.of_app (zs := zs) h2 ho1.1 hc ?_) ⟨h3.os, h3.tape, h3.output, h3.size, fun k hk hs => h3.block k hk (fun e => hs e.symm)⟩
      intro i hi t ht
      obtain rfl : t = 0 := by omega
      rw [Nat.mul_one, Nat.add_zero, List.getElem?_map, List.getElem?_eq_getElem hi]; rfl
end
namespace AppM
set_option maxHeartbeats 1000000 in
set_option maxRecDepth 100000 in
theorem cloneI (w : World) (lo : Nat) {e2 : TypeId} (s : Value) (xs : List Int) (hs : OwnF 1 encI w lo e2 s xs) (hm : xs.length ≤ 1099511627776) :
    Calls Try.prog 91 #[s] w fun e w' => ∃ v, e = .returned v ∧ New w w' ∧ OwnF 1 encI w' w.heap.size 3 v xs := by
  have hO := Lib.hid hs
  have q22 : ∀ (w : World) (a : Option Addr) (n c n' c' : Nat), (binOp .eql 23 (.slice a n c) (.slice none n' c')).run Try.prog w = .ok (.bool a.isNone) w := fun w a n c n' c' => Lib.run_eql_slice_nil w _ _ a n c n' c' Try.underlying23
  rcases hs.form with ⟨rfl, rfl⟩ | ⟨b, cap, cs, rfl, hb, hlc, hcm, hh, hcs, hcc⟩
  · clear hs hO
    go_enter Try.func91, Try.ntmps91
    go_wp2
    go_ret
    exact ⟨_, rfl, Kp.refl _ _, OwnF.nil _ _ _⟩
  · clear hs hh hcs hcc
    go_enter Try.func91, Try.ntmps91
    go_wp2_with (at_builtin; refine wpList_pushes rfl _ _ _ rfl w.heap.size 3 _ _ Try.underlying23 LawF.infoI rfl _ [] rfl (OwnF.empty w 3 (Nat.le_refl _)) _ xs rfl (hO.out.kp ((Kp.refl (fun _ => False) w).alloc _) (fun _ _ f => f)) (fun y _ => rfl) ?qc1 ?qc2 ?qc3 ?_)
    case qc1 => simp; omega
    case qc2 => simp; omega
    case qc3 => simp
    intro v' w1 hv hk
    clear q22
    go_wp2
    go_ret
    exact ⟨_, rfl, New.one ((Kp.refl _ _).alloc _) (hk.mono fun k _ e => by simpa [Value.ownBlock] using e.symm) (Nat.le_refl _), by simpa using hv⟩
set_option maxHeartbeats 1000000 in
set_option maxRecDepth 100000 in
theorem cloneM (w : World) (lo : Nat) {e2 : TypeId} (s : Value) (xs : List Value) (hone : ∀ y ∈ xs, y.oneCell' = true) (hs : OwnF 1 encV w lo e2 s xs) (hm : xs.length ≤ 1073741824) :
    Calls Try.prog 117 #[s] w fun e w' => ∃ v, e = .returned v ∧ New w w' ∧ OwnF 1 encV w' w.heap.size 23 v xs := by
  have hO := Lib.hid hs
  have hone1 := Lib.hid hone
  clear hone
  have q22 : ∀ (w : World) (a : Option Addr) (n c n' c' : Nat), (binOp .eql 27 (.slice a n c) (.slice none n' c')).run Try.prog w = .ok (.bool a.isNone) w := fun w a n c n' c' => Lib.run_eql_slice_nil w _ _ a n c n' c' Try.underlying27
  rcases hs.form with ⟨rfl, rfl⟩ | ⟨b, cap, cs, rfl, hb, hlc, hcm, hh, hcs, hcc⟩
  · clear hs hO
    go_enter Try.func117, Try.ntmps117
    go_wp2
    go_ret
    exact ⟨_, rfl, Kp.refl _ _, OwnF.nil _ _ _⟩
  · clear hs hh hcs hcc
    go_enter Try.func117, Try.ntmps117
    go_wp2_with (at_builtin; refine wpList_pushes rfl _ _ _ rfl w.heap.size 23 _ _ Try.underlying27 MatF.infoM rfl _ [] rfl (OwnF.empty w 23 (Nat.le_refl _)) _ xs rfl (hO.out.kp ((Kp.refl (fun _ => False) w).alloc _) (fun _ _ f => f)) hone1.out ?qc1 ?qc2 ?qc3 ?_)
    case qc1 => simp; omega
    case qc2 => simp; omega
    case qc3 => simp
    intro v' w1 hv hk
    clear q22
    go_wp2
    go_ret
    exact ⟨_, rfl, New.one ((Kp.refl _ _).alloc _) (hk.mono fun k _ e => by simpa [Value.ownBlock] using e.symm) (Nat.le_refl _), by simpa using hv⟩
end AppM
end Go.Proofs.Ytljokgoghphgdaa

/- mark and held of the laws, on rows of the call's own: what they write and what they find. Condition: fewer than 2^30 elements. -/
namespace Go.Proofs.Ytljokgoghphgdaa
open Go.RowKit Kit
set_option linter.unusedVariables false

/-- block b: N cells; the first j elements of n cells hold k, k+1, .. -/
def Marked (w : World) (b : Nat) (T : TypeId) (N n j : Nat) (k : Int) : Prop := ∃ cs : Array Value, w.heap[b]? = some (.cells cs T (0, 0)) ∧ cs.size = N ∧ ∀ i, i < j → ∀ t, t < n → cs[i * n + t]? = some (.int .i64 (k + (i * n + t : Nat)))
namespace Marked
variable {w : World} {b : Nat} {T : TypeId} {N n j : Nat} {k : Int}
theorem row (h : Marked w b T N n j k) : Row w b N T := by obtain ⟨cs, h1, h2, _⟩ := h; exact ⟨cs, h1, h2⟩
theorem cell (h : Marked w b T N n j k) (i : Nat) (hi : i < N) : ∃ v, w.cell? ⟨b, 0 + i, none⟩ = some v := by rw [Nat.zero_add]; exact h.row.cell i hi
theorem free (h : Marked w b T N n j k) : ∀ i, w.frozen? ⟨b, i, none⟩ = false := h.row.free
end Marked
def marksI (k : Int) (m : Nat) : List Int := (List.range m).map fun i : Nat => k + (i : Int)
def marksE (k : Int) (m : Nat) : List Ev := (List.range m).map fun i : Nat => (k + 2 * (i : Int), k + 2 * (i : Int) + 1)
def marksN (k : Int) (m : Nat) : List Ins := (List.range m).map fun i : Nat => ⟨k + 5 * (i : Int), k + 5 * (i : Int) + 1, k + 5 * (i : Int) + 2, k + 5 * (i : Int) + 3, k + 5 * (i : Int) + 4⟩
theorem Marked.step1 {w : World} {b : Nat} {T : TypeId} {N j : Nat} {k : Int} (h : Marked w b T N 1 j k) (hN : (j + 1) * 1 ≤ N) {x0 : Int} (e0 : x0 = k + (j * 1 + 0 : Nat)) : Marked (w.setCell ⟨b, j, none⟩ (.int .i64 x0)) b T N 1 (j + 1) k := by
  subst e0
  obtain ⟨cs, h1, h2, h3⟩ := h
  refine ⟨_, (setCell_heap h1 _), by simpa using h2, fun i hij t ht => ?_⟩
  simp only [Array.getElem?_setIfInBounds]
  by_cases e : j = i
  · subst e
    match t, ht with
    | 0, _ => simp [h2]; omega
  · rw [if_neg (by omega)]
    exact h3 i (by omega) t ht
theorem Marked.step5 {w : World} {b : Nat} {T : TypeId} {N j : Nat} {k : Int} (h : Marked w b T N 5 j k) (hN : (j + 1) * 5 ≤ N) {x0 x1 x2 x3 x4 : Int} (e0 : x0 = k + (j * 5 + 0 : Nat)) (e1 : x1 = k + (j * 5 + 1 : Nat)) (e2 : x2 = k + (j * 5 + 2 : Nat)) (e3 : x3 = k + (j * 5 + 3 : Nat)) (e4 : x4 = k + (j * 5 + 4 : Nat)) : Marked (((((w.setCell ⟨b, j * 5, none⟩ (.int .i64 x0)).setCell ⟨b, j * 5 + 1, none⟩ (.int .i64 x1)).setCell ⟨b, j * 5 + 2, none⟩ (.int .i64 x2)).setCell ⟨b, j * 5 + 3, none⟩ (.int .i64 x3)).setCell ⟨b, j * 5 + 4, none⟩ (.int .i64 x4)) b T N 5 (j + 1) k := by
  subst e0; subst e1; subst e2; subst e3; subst e4
  obtain ⟨cs, h1, h2, h3⟩ := h
  refine ⟨_, (setCell_heap (setCell_heap (setCell_heap (setCell_heap (setCell_heap h1 _) _) _) _) _), by simpa using h2, fun i hij t ht => ?_⟩
  simp only [Array.getElem?_setIfInBounds, Array.size_setIfInBounds]
  by_cases e : j = i
  · subst e
    match t, ht with
    | 0, _ => simp [h2]; omega
    | 1, _ => simp [h2]; omega
    | 2, _ => simp [h2]; omega
    | 3, _ => simp [h2]; omega
    | 4, _ => simp [h2]; omega
  · rw [if_neg (by omega), if_neg (by omega), if_neg (by omega), if_neg (by omega), if_neg (by omega)]
    exact h3 i (by omega) t ht
end Go.Proofs.Ytljokgoghphgdaa
namespace Go.Proofs.Ytljokgoghphgdaa.LawF
open Go.RowKit Kit
set_option linter.unusedVariables false

end Go.Proofs.Ytljokgoghphgdaa.LawF

/- mark and held of the laws, on matrices of the call's own. Condition: at most 2^20 elements and rows. -/
namespace Go.Proofs.Ytljokgoghphgdaa
open Go.RowKit Kit
set_option linter.unusedVariables false
def tot : List (List Int) → Nat | [] => 0 | x :: l => x.length + tot l
/-- the first j rows marked, from k on -/
def mkTo : Int → List (List Int) → Nat → List (List Int)
  | _, [], _ => []
  | _, x :: l, 0 => x :: l
  | k, x :: l, j + 1 => marksI k x.length :: mkTo (k + (x.length : Int)) l j
def marksM (k : Int) (l : List (List Int)) : List (List Int) := mkTo k l l.length
theorem MatO.row {w : World} {lo hi : Nat} {TO T : TypeId} {a : Option Addr} {n cap : Nat} {l : List (List Int)} (h : MatO w lo hi TO T (.slice a n cap) l) (j : Nat) (hj : j < l.length) :
    ∃ b s, a = some ⟨b, 0, none⟩ ∧ lo ≤ b ∧ b < hi ∧ w.cell? ⟨b, j, none⟩ = some s ∧ OwnF 1 encI w lo T s l[j] ∧ (∀ c, s.ownBlock = some c → lo ≤ c ∧ c < hi ∧ c ≠ b) ∧
      ∀ w' x, Kp (fun c => s.ownBlock = some c) w w' → OwnF 1 encI w' lo T s x → MatO w' lo hi TO T (.slice a n cap) (l.set j x) := by
  obtain ⟨vs, h1, h2, h3, h4⟩ := h
  have hl := h2.len
  have hj' : j < vs.length := by omega
  have ho := h2.own j hj' hj
  rcases h1.own.form with ⟨e, _⟩ | ⟨b, cap', cs, e, hb, _, _, hh, hn, hc⟩
  · subst e; exact absurd hj' (Nat.not_lt_zero _)
  · cases e
    have hbo : (Value.slice (some ⟨b, 0, none⟩) vs.length cap).ownBlock = some b := by simp [Value.ownBlock]
    have hm : vs[j] ∈ vs := List.getElem_mem hj'
    refine ⟨b, vs[j], rfl, hb, h1.top b hbo, ?_, ho, fun c hc => ⟨(ho.lt c hc).1, h3 _ hm c hc, fun e => h4 _ hm b hbo (by rw [← e]; exact hc)⟩, fun w' x k hx => ?_⟩
    · have := hc j hj' 0 (by omega)
      rw [Nat.mul_one, Nat.add_zero] at this
      exact (Kit.cell_of_heap hh j).trans this
    · refine ⟨vs, ⟨h1.own.kp k fun c hc hs => ?_, h1.top⟩, h2.set hj' k hx, h3, h4⟩
      rw [hbo] at hc; cases hc
      exact h4 _ hm _ hbo hs
namespace MarkM
end MarkM
end Go.Proofs.Ytljokgoghphgdaa

/- mark and held of the laws, for memories, machines and codes of the call's own. Condition: at most 2^20 elements and rows. -/
namespace Go.Proofs.Ytljokgoghphgdaa.MarkC
open Go.RowKit Kit
set_option linter.unusedVariables false
def MemO (w : World) (lo hi : Nat) (va vb : Value) (ya : List Int) (yb : List (List Int)) : Prop := ∃ p1 p2 p3 p4, lo ≤ p1 ∧ p2 ≤ hi ∧ lo ≤ p3 ∧ p4 ≤ hi ∧ (p2 ≤ p3 ∨ p4 ≤ p1) ∧ OwnR 1 encI w p1 p2 3 va ya ∧ MatO w p3 p4 23 3 vb yb
theorem MemO.of {w : World} {lo hi : Nat} {va vb : Value} {ya : List Int} {yb : List (List Int)} (mid : Nat) (q1 : lo ≤ mid) (q2 : mid ≤ hi) (A : OwnR 1 encI w lo mid 3 va ya) (B : MatO w mid hi 23 3 vb yb) : MemO w lo hi va vb ya yb := ⟨lo, mid, mid, hi, Nat.le_refl _, q2, q1, Nat.le_refl _, .inl (Nat.le_refl _), A, B⟩
theorem MemO.kp {w w' : World} {lo hi : Nat} {va vb : Value} {ya : List Int} {yb : List (List Int)} (h : MemO w lo hi va vb ya yb) {S : Nat → Prop} (k : Kp S w w') (hs : ∀ b, S b → b < lo ∨ hi ≤ b) : MemO w' lo hi va vb ya yb := by
  obtain ⟨p1, p2, p3, p4, q1, q2, q3, q4, q5, h1, h2⟩ := h
  exact ⟨p1, p2, p3, p4, q1, q2, q3, q4, q5, h1.kp k (fun b hb => by have := hs b hb; omega), h2.kp k (fun b hb => by have := hs b hb; omega)⟩
theorem MemO.new {w w' : World} {lo hi : Nat} {va vb : Value} {ya : List Int} {yb : List (List Int)} (h : MemO w lo hi va vb ya yb) (hh : hi ≤ w.heap.size) (k : New w w') : MemO w' lo hi va vb ya yb := h.kp k (fun _ f => f.elim)
theorem MemO.mono {w : World} {lo hi lo' hi' : Nat} {va vb : Value} {ya : List Int} {yb : List (List Int)} (h : MemO w lo hi va vb ya yb) (h1 : lo' ≤ lo) (h2 : hi ≤ hi') : MemO w lo' hi' va vb ya yb := by
  obtain ⟨p1, p2, p3, p4, q1, q2, q3, q4, q5, r1, r2⟩ := h
  exact ⟨p1, p2, p3, p4, by omega, by omega, by omega, by omega, q5, r1, r2⟩
/-- the registers and the memory, in ranges of blocks that are apart -/
def MachO (w : World) (lo hi : Nat) (vr va vb : Value) (yr ya : List Int) (yb : List (List Int)) : Prop := ∃ p1 p2 p3 p4, lo ≤ p1 ∧ p2 ≤ hi ∧ lo ≤ p3 ∧ p4 ≤ hi ∧ (p2 ≤ p3 ∨ p4 ≤ p1) ∧ OwnR 1 encI w p1 p2 3 vr yr ∧ MemO w p3 p4 va vb ya yb
theorem MachO.kp {w w' : World} {lo hi : Nat} {vr va vb : Value} {yr ya : List Int} {yb : List (List Int)} (h : MachO w lo hi vr va vb yr ya yb) {S : Nat → Prop} (k : Kp S w w') (hs : ∀ b, S b → b < lo ∨ hi ≤ b) : MachO w' lo hi vr va vb yr ya yb := by
  obtain ⟨p1, p2, p3, p4, q1, q2, q3, q4, q5, h1, h2⟩ := h
  exact ⟨p1, p2, p3, p4, q1, q2, q3, q4, q5, h1.kp k (fun b hb => by have := hs b hb; omega), h2.kp k (fun b hb => by have := hs b hb; omega)⟩
theorem MachO.new {w w' : World} {lo hi : Nat} {vr va vb : Value} {yr ya : List Int} {yb : List (List Int)} (h : MachO w lo hi vr va vb yr ya yb) (hh : hi ≤ w.heap.size) (k : New w w') : MachO w' lo hi vr va vb yr ya yb := h.kp k (fun _ f => f.elim)
theorem MachO.mono {w : World} {lo hi lo' hi' : Nat} {vr va vb : Value} {yr ya : List Int} {yb : List (List Int)} (h : MachO w lo hi vr va vb yr ya yb) (h1 : lo' ≤ lo) (h2 : hi ≤ hi') : MachO w lo' hi' vr va vb yr ya yb := by
  obtain ⟨p1, p2, p3, p4, q1, q2, q3, q4, q5, r1, r2⟩ := h
  exact ⟨p1, p2, p3, p4, by omega, by omega, by omega, by omega, q5, r1, r2⟩
theorem MemO.reads {w : World} {lo hi : Nat} {va vb : Value} {ya : List Int} {yb : List (List Int)} (h : MemO w lo hi va vb ya yb) : IntsR w lo hi va ya ∧ MatR w lo hi vb yb := by
  obtain ⟨p1, p2, p3, p4, q1, q2, q3, q4, q5, A, B⟩ := h
  exact ⟨A.reads.mono q1 q2, B.reads.mono q3 q4⟩
theorem MachO.reads {w : World} {lo hi : Nat} {vr va vb : Value} {yr ya : List Int} {yb : List (List Int)} (h : MachO w lo hi vr va vb yr ya yb) : IntsR w lo hi vr yr ∧ IntsR w lo hi va ya ∧ MatR w lo hi vb yb := by
  obtain ⟨p1, p2, p3, p4, q1, q2, q3, q4, q5, A, B⟩ := h
  exact ⟨A.reads.mono q1 q2, B.reads.1.mono q3 q4, B.reads.2.mono q3 q4⟩
theorem MemO.lens {w : World} {lo hi : Nat} {va vb : Value} {ya : List Int} {yb : List (List Int)} (h : MemO w lo hi va vb ya yb) : (∃ a d, va = .slice a ya.length d) ∧ ∃ a d, vb = .slice a yb.length d := by
  obtain ⟨p1, p2, p3, p4, q1, q2, q3, q4, q5, A, B⟩ := h
  obtain ⟨a1, d1, rfl, l1⟩ := A.reads.len
  obtain ⟨a2, d2, rfl, l2⟩ := B.reads.len
  exact ⟨⟨_, _, rfl⟩, _, _, rfl⟩
def CodeO (w : World) (lo hi : Nat) (va vb vc : Value) (xa xb : List Int) (x : List Ins) : Prop := ∃ m1 m2, lo ≤ m1 ∧ m1 ≤ m2 ∧ m2 ≤ hi ∧ OwnR 1 encI w lo m1 3 va xa ∧ OwnR 1 encI w m1 m2 3 vb xb ∧ OwnR 5 encN w m2 hi 44 vc x
end Go.Proofs.Ytljokgoghphgdaa.MarkC

/- (impl.Memory).own and spec.l3Copy: a memory of the call's own with the same values. Condition: bounds on the lengths. -/
namespace Go.Proofs.Ytljokgoghphgdaa.OwnM
open Go.RowKit Kit
set_option linter.unusedVariables false
theorem _root_.Go.Proofs.Ytljokgoghphgdaa.OwnF.mk' {α : Type} {n : Nat} {enc : α → Nat → Value} {w : World} {base b cap : Nat} {T : TypeId} {cs : Array Value} {xs : List α} (hh : w.heap[b]? = some (.cells cs T (0, 0))) (hb : base ≤ b) (hcap : xs.length ≤ cap) (hm : cap ≤ maxLen) (hs : cs.size = cap * n)
    (hc : ∀ i (hi : i < xs.length) t, t < n → cs[i * n + t]? = some (enc xs[i] t)) : OwnF n enc w base T (.slice (some ⟨b, 0, none⟩) xs.length cap) xs := by
  have hle : xs.length * n ≤ cs.size := by rw [hs]; exact Nat.mul_le_mul_right _ hcap
  refine ⟨cs.toList.take (xs.length * n), ⟨by simp [List.length_take]; omega, .inr ⟨b, cap, cs, rfl, hb, hh, hcap, hm, hs, rfl⟩⟩, fun i hi t ht => ?_⟩
  have hlt : i * n + t < xs.length * n := by
    have : (i + 1) * n ≤ xs.length * n := Nat.mul_le_mul_right _ hi
    rw [Nat.add_mul] at this; omega
  rw [List.getElem?_take, if_pos hlt]
  simpa using hc i hi t ht
/-- an element of one cell is stored -/
theorem _root_.Go.Proofs.Ytljokgoghphgdaa.OwnF.set1 {α : Type} {enc : α → Nat → Value} {w : World} {base b cap : Nat} {o : Nat} {T : TypeId} {xs : List α} (h : OwnF 1 enc w base T (.slice (some ⟨b, o, none⟩) xs.length cap) xs) (j : Nat) (hj : j < xs.length) (y : α) :
    OwnF 1 enc (w.setCell ⟨b, j, none⟩ (enc y 0)) base T (.slice (some ⟨b, o, none⟩) xs.length cap) (xs.set j y) := by
  rcases h.form with ⟨e, e2⟩ | ⟨g, cap', cs, e, hb, hl, hm, hh, hs, hc⟩
  · cases e2
  · cases e
    have := OwnF.mk' (enc := enc) (n := 1) (xs := xs.set j y) (base := base) (setCell_heap (o := j) hh (enc y 0)) hb (by simpa using hl) hm (by simpa using hs) (fun i hi t ht => by
      obtain rfl : t = 0 := by omega
      have hi' : i < xs.length := by simpa using hi
      rw [Nat.mul_one, Nat.add_zero, Array.getElem?_setIfInBounds]
      by_cases e : j = i
      · subst e; simp; omega
      · have := hc i hi' 0 (by omega)
        rw [Nat.mul_one, Nat.add_zero] at this
        simp only [e, if_false, List.getElem_set_ne e]; exact this)
    rw [List.length_set] at this
    exact this
theorem _root_.Go.Proofs.Ytljokgoghphgdaa.RowsO.one {w : World} {base : Nat} {T : TypeId} {vs : List Value} {l : List (List Int)} (h : RowsO w base T vs l) : ∀ y ∈ vs, y.oneCell' = true := fun y hy => by
  obtain ⟨xs, ho⟩ := h.mem hy
  rcases ho.form with ⟨_, e⟩ | ⟨b, c, cs, e, _⟩ <;> rw [e] <;> rfl
/-- where own stands behind its first statement -/
def Own1 (w wc : World) (ya : List Int) (vs : List Value) : Prop := ∃ a3 d3 a4 d4 mid, New w wc ∧ wc.heap[w.heap.size]? = some (.cells #[.slice a3 ya.length d3, .slice a4 vs.length d4] 29) ∧ wc.heap[w.heap.size + 1]? = some (.cells #[.slice none 0 0, .slice none 0 0] 29) ∧
  w.heap.size + 2 ≤ mid ∧ mid ≤ wc.heap.size ∧ OwnR 1 encI wc (w.heap.size + 2) mid 3 (.slice a3 ya.length d3) ya ∧ OwnF 1 encV wc mid 23 (.slice a4 vs.length d4) vs
/-- rows before j are new, rows from j on the old ones -/
def OwnL (w wr : World) (lo : Nat) (v : Value) (vs : List Value) (yb : List (List Int)) (j : Nat) : Prop := ∃ us, us.length = j ∧ OwnF 1 encV wr lo 23 v (us ++ vs.drop j) ∧ RowsO wr lo 3 us (yb.take j) ∧ ∀ x ∈ us, ∀ b, v.ownBlock = some b → x.ownBlock ≠ some b
theorem OwnL.zero {w wr : World} {lo : Nat} {v : Value} {vs : List Value} {yb : List (List Int)} (h : OwnF 1 encV wr lo 23 v vs) : OwnL w wr lo v vs yb 0 :=
  ⟨[], rfl, by simpa using h, by simpa using RowsO.nil _ _ _, fun x hx => by simp at hx⟩
theorem OwnL.step {w wr w1 : World} {lo : Nat} {a : Option Addr} {d : Nat} {vs : List Value} {yb : List (List Int)} {j : Nat} (h : OwnL w wr lo (.slice a vs.length d) vs yb j) (hl : vs.length = yb.length) (hj : j < vs.length) (hlo : lo ≤ wr.heap.size) (k : New wr w1) {r : Value} (hr : OwnF 1 encI w1 wr.heap.size 3 r (yb[j]'(by omega))) :
    ∃ b, a = some ⟨b, 0, none⟩ ∧ lo ≤ b ∧ b < wr.heap.size ∧ wr.cell? ⟨b, j, none⟩ = some vs[j] ∧ w1.frozen? ⟨b, j, none⟩ = false ∧ (∃ u, w1.cell? ⟨b, j, none⟩ = some u) ∧ OwnL w (w1.setCell ⟨b, j, none⟩ r) lo (.slice a vs.length d) vs yb (j + 1) := by
  obtain ⟨us, h1, h2, h3, h4⟩ := h
  have hlen : (us ++ vs.drop j).length = vs.length := by simp; omega
  rw [← hlen] at h2
  rcases h2.form with ⟨e, _⟩ | ⟨b, cap', cs, e, hb, hlc, hm, hh, hs, hc⟩
  · rw [e] at hlen; simp at hlen; omega
  · cases e
    have hbw := heap_lt hh
    have hh1 : w1.heap[b]? = some (.cells cs 23 (0, 0)) := heap_new k hh
    have hcj := hc j (by omega) 0 (by omega)
    rw [Nat.mul_one, Nat.add_zero] at hcj
    have hg : (us ++ vs.drop j)[j]'(by omega) = vs[j] := by
      rw [List.getElem_append_right (by omega)]; simp [h1]
    have hbo : (Value.slice (some ⟨b, 0, none⟩) vs.length d).ownBlock = some b := by simp [Value.ownBlock]
    refine ⟨b, rfl, hb, hbw, (cell_of_heap hh j).trans (by rw [hcj, hg]; rfl), frozen_of_heap hh1 j, ⟨_, (cell_of_heap hh1 j).trans hcj⟩, us ++ [r], by simp [h1], ?_, ?_, ?_⟩
    · have := (h2.new k).set1 j (by omega) r
      rw [hlen] at this
      have e2 : (us ++ vs.drop j).set j r = us ++ [r] ++ vs.drop (j + 1) := by
        rw [List.set_append_right _ _ (by omega), List.append_assoc]
        congr 1
        rw [h1, Nat.sub_self, List.drop_eq_getElem_cons hj]; rfl
      rw [e2] at this
      exact this
    · have hs3 := h3.snoc k hlo hr
      rw [List.take_succ_eq_append_getElem (by omega)]
      refine hs3.kp (S := fun x => x = b) ((Kp.refl (fun x => x = b) w1).setCell (.inl rfl) r) fun x hx c hc hS => ?_
      subst hS
      rcases List.mem_append.1 hx with q | q
      · exact h4 x q c hbo hc
      · rw [List.mem_singleton] at q
        subst q
        have := (hr.lt c hc).1; omega
    · intro x hx c hc hxc
      rw [hbo] at hc; cases hc
      rcases List.mem_append.1 hx with q | q
      · exact h4 x q b hbo hxc
      · rw [List.mem_singleton] at q
        subst q
        have := (hr.lt b hxc).1; omega
theorem OwnL.at' {w wr : World} {lo : Nat} {a : Option Addr} {d : Nat} {vs : List Value} {yb : List (List Int)} {j : Nat} (h : OwnL w wr lo (.slice a vs.length d) vs yb j) (hj : j < vs.length) : ∃ b, a = some ⟨b, 0, none⟩ ∧ lo ≤ b ∧ b < wr.heap.size ∧ wr.cell? ⟨b, j, none⟩ = some vs[j] := by
  obtain ⟨us, h1, h2, h3, h4⟩ := h
  have hlen : (us ++ vs.drop j).length = vs.length := by simp; omega
  rw [← hlen] at h2
  rcases h2.form with ⟨e, _⟩ | ⟨b, cap', cs, e, hb, hlc, hm, hh, hs, hc⟩
  · rw [e] at hlen; simp at hlen; omega
  · cases e
    have hcj := hc j (by omega) 0 (by omega)
    rw [Nat.mul_one, Nat.add_zero] at hcj
    have hg : (us ++ vs.drop j)[j]'(by omega) = vs[j] := by
      rw [List.getElem_append_right (by omega)]; simp [h1]
    exact ⟨b, rfl, hb, heap_lt hh, (cell_of_heap hh j).trans (by rw [hcj, hg]; rfl)⟩
theorem OwnL.kp {w wr w1 : World} {lo : Nat} {v : Value} {vs : List Value} {yb : List (List Int)} {j : Nat} (h : OwnL w wr lo v vs yb j) {S : Nat → Prop} (k : Kp S wr w1) (hs : ∀ b, S b → b < lo) : OwnL w w1 lo v vs yb j := by
  obtain ⟨us, h1, h2, h3, h4⟩ := h
  refine ⟨us, h1, h2.kp k fun b hb hS => ?_, h3.kp k fun x hx b hb hS => ?_, h4⟩
  · have := (h2.lt b hb).1; have := hs b hS; omega
  · obtain ⟨xs, ho⟩ := h3.mem hx
    have := (ho.lt b hb).1; have := hs b hS; omega
theorem OwnL.done {w wr : World} {lo : Nat} {v : Value} {vs : List Value} {yb : List (List Int)} (h : OwnL w wr lo v vs yb vs.length) (hl : vs.length = yb.length) : MatO wr lo wr.heap.size 23 3 v yb := by
  obtain ⟨us, h1, h2, h3, h4⟩ := h
  rw [List.drop_of_length_le (Nat.le_refl _), List.append_nil] at h2
  rw [hl, List.take_of_length_le (Nat.le_refl _)] at h3
  exact MatO.of us h2 h3 h4
set_option maxHeartbeats 2000000 in
set_option maxRecDepth 100000 in
theorem ownMem (w : World) (lo hi : Nat) (va vb : Value) (ya : List Int) (yb : List (List Int)) (h : MarkC.MemO w lo hi va vb ya yb) (hh : hi ≤ w.heap.size) (m0 : ya.length ≤ 1099511627776) (m1 : yb.length ≤ 1073741824) (m2 : ∀ x ∈ yb, x.length ≤ 1099511627776) :
    Calls Try.prog 92 #[.agg #[va, vb]] w fun e w' => ∃ ua ub, e = .returned (.agg #[ua, ub]) ∧ New w w' ∧ MarkC.MemO w' w.heap.size w'.heap.size ua ub ya yb := by
  obtain ⟨p1, p2, p3, p4, q1, q2, qx, qy, qz, hA, hB⟩ := h
  obtain ⟨a1, d1, rfl, l1⟩ := hA.reads.len
  obtain ⟨a2, d2, rfl, l2⟩ := hB.reads.len
  go_enter Try.func92, Try.ntmps92
  go_wp2_with fail
  have N0 : New w (((w.alloc (.cells #[.slice a1 ya.length d1, .slice a2 yb.length d2] 29)).alloc (.cells #[.slice none 0 0, .slice none 0 0] 29))) := ((Kp.refl _ _).alloc _).alloc _
  have bM : (((w.alloc (.cells #[.slice a1 ya.length d1, .slice a2 yb.length d2] 29)).alloc (.cells #[.slice none 0 0, .slice none 0 0] 29))).heap[w.heap.size]? = some (.cells #[.slice a1 ya.length d1, .slice a2 yb.length d2] 29) := heap_old (alloc_heap _ _)
  have bR : (((w.alloc (.cells #[.slice a1 ya.length d1, .slice a2 yb.length d2] 29)).alloc (.cells #[.slice none 0 0, .slice none 0 0] 29))).heap[w.heap.size + 1]? = some (.cells #[.slice none 0 0, .slice none 0 0] 29) := heap_at (by simp)
  have z0 : w.heap.size + 1 < (((w.alloc (.cells #[.slice a1 ya.length d1, .slice a2 yb.length d2] 29)).alloc (.cells #[.slice none 0 0, .slice none 0 0] 29))).heap.size := by simp
  generalize (((w.alloc (.cells #[.slice a1 ya.length d1, .slice a2 yb.length d2] 29)).alloc (.cells #[.slice none 0 0, .slice none 0 0] 29))) = w0 at *
  have hA0 := Lib.hid (hA.new (by omega) N0).own
  obtain ⟨vs, hO, hRow, hT, hD⟩ := id hB
  have hone : ∀ y ∈ vs, y.oneCell' = true := hRow.one
  have hB0 := Lib.hid (hO.new (by omega) N0).own
  have hone' := Lib.hid hone
  have hRow' := Lib.hid hRow
  have hT' := Lib.hid hT
  have hD' := Lib.hid hD
  have hvl := Lib.hid hRow.len
  clear hA hB hO hone hRow hT hD
  have c0 := cell_of_heap bM 0
  have c1 := cell_of_heap bM 1
  have c0f := frozen_of_heap bM
  have kd : New w0 w0.drew := (Kp.refl _ _).drew
  have hA1 := Lib.hid (hA0.out.new kd)
  have hB1 := Lib.hid (hB0.out.new kd)
  clear hA0 hB0
  go_cut [] (fun wc => Own1 w wc ya vs)
  case first =>
    go_region_with (first | (go_at_call 117; refine (AppM.cloneM _ p3 _ vs hone'.out (hB1.out.new hn1) (by have := hvl.out; omega)).mono ?_; rintro e w2 ⟨v2, rfl, hn2, hv2⟩; obtain ⟨a4, d4, rfl, _⟩ := hv2.reads.len; have N2 := (N0.trans kd).trans (hn1.trans hn2); have bM2 := heap_new ((kd.trans hn1).trans hn2) bM; have c02 := cell_of_heap bM2 0; have c12 := cell_of_heap bM2 1; have cf2 := frozen_of_heap bM2) | (go_at_call 91; refine (AppM.cloneI _ p1 _ ya hA1.out (by omega)).mono ?_; rintro e w1 ⟨v1, rfl, hn1, hv1⟩; obtain ⟨a3, d3, rfl, _⟩ := hv1.reads.len; have bM1 := heap_new (kd.trans hn1) bM; have c01 := cell_of_heap bM1 0; have c11 := cell_of_heap bM1 1; have cf1 := frozen_of_heap bM1))
    all_goals
      have hv1b := Lib.hid (hv1.new hn2)
      have hv1t := Lib.hid (show ∀ b, (Value.slice a3 ya.length d3).ownBlock = some b → b < w1.heap.size from fun b hb => (hv1.lt b hb).2)
      have bR2 := heap_new ((kd.trans hn1).trans hn2) bR
      have z1 := hn1.size
      have z2 := hn2.size
      have zd : w0.heap.size = w0.drew.heap.size := rfl
      go_wp2_with fail
      go_meet
      have kk : One w.heap.size w2 ((w2.setCell ⟨w.heap.size, 0, none⟩ (.slice a3 ya.length d3)).setCell ⟨w.heap.size, 1, none⟩ (.slice a4 vs.length d4)) := ((Kp.refl (fun k => k = w.heap.size) _).setCell (.inl rfl) _).setCell (.inl rfl) _
      have := kk.size
      exact ⟨a3, d3, a4, d4, w1.heap.size, New.one N2 kk (Nat.le_refl _), setCell_heap (setCell_heap bM2 _) _, heap_set (heap_set bR2 (by omega) _) (by omega) _, by omega, by omega, ⟨(hv1b.out.kp kk (fun b hb e => by have := (hv1b.out.lt b hb).1; omega)).mono (by omega), hv1t.out⟩, hv2.kp kk (fun b hb e => by have := (hv2.lt b hb).1; omega)⟩
  case rest =>
    obtain ⟨a3, d3, a4, d4, m, N1, bM1, bR1, q3, q4, oA, oB⟩ := hcut
    clear hA1 hB1 kd N0 bM bR c0 c1 c0f z0
    have cc1 := cell_of_heap bM1 1
    have hL := OwnL.zero (w := w) (yb := yb) oB
    have lvs : vs.length ≤ 1073741824 := by have := hvl.out; omega
    clear oB
    go_wp2_with fail
    clear cc1
    go_loopw [16] (fun i wr => ∃ j : Nat, j ≤ vs.length ∧ i = .int .i64 j ∧ New w wr ∧ wr.heap[w.heap.size]? = some (.cells #[.slice a3 ya.length d3, .slice a4 vs.length d4] 29) ∧ wr.heap[w.heap.size + 1]? = some (.cells #[.slice none 0 0, .slice none 0 0] 29) ∧ m ≤ wr.heap.size ∧ OwnR 1 encI wr (w.heap.size + 2) m 3 (.slice a3 ya.length d3) ya ∧ OwnL w wr m (.slice a4 vs.length d4) vs yb j) (fun i _ => vs.length - (intOf i).toNat)
    case atStart => exact ⟨0, Nat.zero_le _, rfl, N1, bM1, bR1, q4, oA, hL⟩
    case round =>
      obtain ⟨j, hj, rfl, N2, bM2, bR2, q5, oA2, hL2⟩ := hrel
      clear hL oA bM1 bR1 N1
      have cc := cell_of_heap bM2 1
      by_cases hlt : j < vs.length
      · obtain ⟨b, rfl, hb1, hb2, cv⟩ := hL2.at' hlt
        have hLh := Lib.hid hL2
        have hvr := Lib.hid ((hRow'.out.own j hlt (by have := hvl.out; omega)).new N2)
        have hx := m2 _ (List.getElem_mem (l := yb) (n := j) (by have := hvl.out; omega))
        clear hL2
        go_wp2_with fail
        clear cv
        have kd := (Kp.refl (fun _ => False) wr).drew
        have bM3 := heap_new kd bM2
        have cM3 := cell_of_heap bM3 1
        go_region_held3 (fun w' => w'.cell? ⟨w.heap.size, 1, none⟩ = some (.slice (some ⟨b, 0, none⟩) vs.length d4)) (first | exact cM3 | exact cM4 | exact (cell_of_heap (heap_set bM4 (by omega) _) 1))
          (first | (go_at_call 91; refine (AppM.cloneI _ p3 _ _ (hvr.out.new kd) hx).mono ?_; rintro e w1 ⟨v1, rfl, hn1, hv1⟩; obtain ⟨b', hbb, _, _, _, cf4, ⟨xx, cx5⟩, hL4⟩ := hLh.out.step hvl.out hlt q5 (kd.trans hn1) hv1; cases hbb; have hL5 := Lib.hid hL4; clear hL4; obtain ⟨a5, d5, rfl, _⟩ := hv1.reads.len; have bM4 := heap_new hn1 bM3; have cM4 := cell_of_heap bM4 1))
        have kk : One b w1 (w1.setCell ⟨b, j, none⟩ (.slice a5 yb[j].length d5)) := (Kp.refl (fun k => k = b) _).setCell (.inl rfl) _
        have N3 := New.one ((N2.trans kd).trans hn1) kk (by omega)
        have z1 := hn1.size
        have zd : wr.heap.size = wr.drew.heap.size := rfl
        have zk := kk.size
        have oA3 := ((oA2.new q5 kd).new (by omega) hn1).kp kk (fun b e => .inr (by omega))
        have bM5 := heap_set (o := j) bM4 (show w.heap.size ≠ b by omega) (.slice a5 yb[j].length d5)
        have bR5 := heap_set (o := j) (heap_new hn1 (heap_new kd bR2)) (show w.heap.size + 1 ≠ b by omega) (.slice a5 yb[j].length d5)
        clear cM3 cM4 bM3 bM4 cx5 cf4 hv1 bR2 bM2 cc oA2 hLh hvr
        go_wp2
        go_roundw
        case rel => exact ⟨j + 1, by omega, by go_num, N3, bM5, bR5, by omega, oA3, hL5.out⟩
        case measure => simp [intOf]; omega
      · have hge : vs.length ≤ j := by omega
        have hL3 : OwnL w wr m (.slice a4 vs.length d4) vs yb vs.length := by
          have e : j = vs.length := by omega
          subst e; exact hL2
        clear hL2
        have cc0 := cell_of_heap bM2 0
        have cr0 := cell_of_heap bR2 0
        have cr1 := cell_of_heap bR2 1
        have crf := frozen_of_heap bR2
        go_wp2
        have kz : One (w.heap.size + 1) wr ((wr.setCell ⟨w.heap.size + 1, 0, none⟩ (.slice a3 ya.length d3)).setCell ⟨w.heap.size + 1, 1, none⟩ (.slice a4 vs.length d4)) := ((Kp.refl (fun k => k = w.heap.size + 1) _).setCell (.inl rfl) _).setCell (.inl rfl) _
        have hR := setCell_heap (o := 1) (setCell_heap (o := 0) bR2 (.slice a3 ya.length d3)) (.slice a4 vs.length d4)
        have hsz : ((wr.setCell ⟨w.heap.size + 1, 0, none⟩ (.slice a3 ya.length d3)).setCell ⟨w.heap.size + 1, 1, none⟩ (.slice a4 vs.length d4)).heap.size = wr.heap.size := by simp
        have hL4 := (hL3.kp kz (fun b e => by omega)).done hvl.out
        refine bodyPost_ret (results_cell_row rfl _ _ _ _ _ _ _ rfl hR Try.underlying29 rfl (by kernel_rfl)) rfl ⟨_, _, rfl, New.one N2 kz (by omega), .of m (by omega) (by omega) ((oA2.kp kz (fun b e => .inl (by omega))).mono (by omega) (Nat.le_refl _)) hL4⟩
end Go.Proofs.Ytljokgoghphgdaa.OwnM
