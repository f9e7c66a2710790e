/- Plain words for worlds: which blocks a call may have turned; small laws on them. No program in sight; no conditions. -/
import Derived.Below
import Derived.Deep.Draws
import Derived.Laws.MakeOwn
import Derived.OpenShut
import Derived.ChangeOld
import Derived.Deep.Heap
import Derived.IntWalk
import Derived.Lib.Hide
import Derived.WalkKit
import Derived.ProofKit
import Derived.StillTailTactics
import Derived.Deep.RegionHeld
import Derived.Laws.Rows
import Derived.Test.YtckikiaockkmbaaDoorChecked
import Derived.Deep.QuietTactic
import Derived.BigQuiet
import Derived.Deep.RegionHeld3
namespace Go.Proofs.YtckikiaockkmbaaDoor.Kit
open Go.RowKit

theorem retB {a b : Bool} (h : a = b) : Ending.returned (.bool a) = .returned (.bool b) := by rw [h]
theorem retI {k : IntKind} {a b : Int} (h : a = b) : Ending.returned (.int k a) = .returned (.int k b) := by rw [h]

/-- w' is w but for new blocks and for the old blocks of S -/
structure Kp (S : Nat → Prop) (w w' : World) : Prop where
  os : w'.os = w.os
  tape : w'.tape = w.tape
  output : w'.output = w.output
  size : w.heap.size ≤ w'.heap.size
  block : ∀ k, k < w.heap.size → ¬ S k → w'.heap[k]? = w.heap[k]?

namespace Kp
variable {S T : Nat → Prop} {a w w' w'' : World}
theorem refl (S : Nat → Prop) (w : World) : Kp S w w := ⟨rfl, rfl, rfl, Nat.le_refl _, fun _ _ _ => rfl⟩
theorem trans (h : Kp S w w') (k : Kp S w' w'') : Kp S w w'' :=
  ⟨k.os.trans h.os, k.tape.trans h.tape, k.output.trans h.output, Nat.le_trans h.size k.size, fun i hi hs => (k.block i (Nat.lt_of_lt_of_le hi h.size) hs).trans (h.block i hi hs)⟩
theorem mono (h : Kp S w w') (hs : ∀ k, k < w.heap.size → S k → T k) : Kp T w w' := ⟨h.os, h.tape, h.output, h.size, fun k hk ht => h.block k hk (fun s => ht (hs k hk s))⟩
theorem drew (h : Kp S a w) : Kp S a w.drew := ⟨h.os, h.tape, h.output, h.size, h.block⟩
theorem alloc (h : Kp S a w) (o : Obj) : Kp S a (w.alloc o) :=
  ⟨h.os, h.tape, h.output, by have := h.size; simp; omega, fun k hk hs => (Below.heap_alloc _ _ _ (by have := h.size; omega)).trans (h.block k hk hs)⟩
theorem setCell (h : Kp S a w) {p : Addr} (hp : S p.block ∨ a.heap.size ≤ p.block) (u : Value) : Kp S a (w.setCell p u) :=
  ⟨h.os, h.tape, h.output, by have := h.size; simp [World.setCell]; omega, fun k hk hs => (Below.heap_setCell _ _ _ _ (fun e => by rcases hp with hp | hp; exact hs (e ▸ hp); omega)).trans (h.block k hk hs)⟩
/-- what is turned lies from B on -/
theorem below (h : Kp S w w') {B : Nat} (hB : B ≤ w.heap.size) (hs : ∀ k, S k → B ≤ k) : Below B w w' :=
  ⟨h.os, h.tape, h.output, h.size, fun k hk => h.block k (by omega) (fun s => by have := hs k s; omega)⟩
theorem ofBelow (h : Below w.heap.size w w') : Kp S w w' := ⟨h.os, h.tape, h.output, h.size, fun k hk _ => h.block k hk⟩
theorem toBelow (h : Kp (fun _ => False) w w') : Below w.heap.size w w' := h.below (Nat.le_refl _) (fun _ h => h.elim)
theorem cell (h : Kp S w w') {b : Nat} (hb : b < w.heap.size) (hs : ¬ S b) (o : Nat) : w'.cell? ⟨b, o, none⟩ = w.cell? ⟨b, o, none⟩ := World.cell?_of_block (w := w) (h.block b hb hs)
theorem frozen (h : Kp S w w') {b : Nat} (hb : b < w.heap.size) (hs : ¬ S b) (o : Nat) : w'.frozen? ⟨b, o, none⟩ = w.frozen? ⟨b, o, none⟩ := World.frozen?_of_block (w := w) (h.block b hb hs)
end Kp

/-- nothing old is turned -/
abbrev New (w w' : World) : Prop := Kp (fun _ => False) w w'
/-- block b alone of the old ones is turned -/
abbrev One (b : Nat) (w w' : World) : Prop := Kp (fun k => k = b) w w'

theorem cell_lt {w : World} {b o : Nat} {v : Value} (h : w.cell? ⟨b, o, none⟩ = some v) : b < w.heap.size := World.block_lt_of_cell? w ⟨b, o, none⟩ h
theorem heap_lt {w : World} {b : Nat} {x : Obj} (h : w.heap[b]? = some x) : b < w.heap.size := (Array.getElem?_eq_some_iff.1 h).1
theorem cell_of_heap {w : World} {b : Nat} {cs : Array Value} {T : TypeId} {f : Nat × Nat} (h : w.heap[b]? = some (.cells cs T f)) (o : Nat) : w.cell? ⟨b, o, none⟩ = cs[o]? := by simp [World.cell?, h]
theorem frozen_of_heap {w : World} {b : Nat} {cs : Array Value} {T : TypeId} (h : w.heap[b]? = some (.cells cs T (0, 0))) (o : Nat) : w.frozen? ⟨b, o, none⟩ = false := by simp [World.frozen?, h]
theorem setCell_heap {w : World} {b o : Nat} {cs : Array Value} {T : TypeId} {f : Nat × Nat} (h : w.heap[b]? = some (.cells cs T f)) (v : Value) : (w.setCell ⟨b, o, none⟩ v).heap[b]? = some (.cells (cs.setIfInBounds o v) T f) := by
  simp [World.setCell, Array.getElem?_modify, h]
theorem alloc_heap (w : World) (x : Obj) : (w.alloc x).heap[w.heap.size]? = some x := heap_alloc_new w x
theorem heap_at {w : World} {x : Obj} {b : Nat} (h : w.heap.size = b) : (w.alloc x).heap[b]? = some x := by subst h; exact alloc_heap _ _
theorem heap_old {w : World} {x y : Obj} {b : Nat} (h : w.heap[b]? = some y) : (w.alloc x).heap[b]? = some y := (Below.heap_alloc w x b (heap_lt h)).trans h
theorem heap_new {w w' : World} (k : New w w') {b : Nat} {x : Obj} (h : w.heap[b]? = some x) : w'.heap[b]? = some x := (k.block b (heap_lt h) (fun f => f)).trans h
theorem drewN_kp (S : Nat → Prop) {a w : World} (n : Nat) (h : Kp S a w) : Kp S a (w.drewN n) := by
  induction n with
  | zero => exact h
  | succ n ih => exact ⟨ih.os, ih.tape, ih.output, ih.size, ih.block⟩
theorem drewN_heap (w : World) (n : Nat) : (w.drewN n).heap = w.heap := by
  induction n with
  | zero => rfl
  | succ n ih => exact ih

/-- the cells of a new row of n elements of 'size' cells -/
def mkCells (z : Value) (size n : Nat) : Array Value := madeCells z.cells (n * size)
theorem mkCells_size (z : Value) (size n : Nat) : (mkCells z size n).size = n * size := by simp [mkCells, size_madeCells]
theorem run_mk {P : Program} (t e : TypeId) (z : Value) (size bytes : Nat) (ht : P.underlying t = some (.slice e)) (hinfo : (P.info? e).map (fun i => (i.zero, i.size, i.bytes)) = some (some z, size, bytes))
    (n : Nat) (hb : bytes * n ≤ 281474976710656) (h63 : n ≤ 9223372036854775807) (w : World) :
    (Instr.makeSlice t (.int .i64 (n : Int)) (.int .i64 (n : Int))).run P w = .ok (.slice (some ⟨w.heap.size, 0, none⟩) n n) (w.alloc (.cells (mkCells z size n) e)) := by
  obtain ⟨i, hi, hzz⟩ := Option.map_eq_some_iff.1 hinfo
  simp only [Prod.mk.injEq] at hzz
  obtain ⟨hz, hs, hby⟩ := hzz
  have hb' : (i.bytes : Int) * (n : Int) ≤ 281474976710656 := by
    have h : ((i.bytes * n : Nat) : Int) ≤ 281474976710656 := by rw [hby]; omega
    rwa [Int.natCast_mul] at h
  have hr := run_make (P := P) w t e i z ht hi hz .i64 .i64 n n (by omega) (Int.le_refl _) hb' (by omega)
  simp only [Int.toNat_natCast, hs] at hr
  exact hr

/-- block b is a row of n cells, none of them shut -/
structure Row (w : World) (b n : Nat) (T : TypeId) : Prop where
  is : ∃ cs, w.heap[b]? = some (.cells cs T (0, 0)) ∧ cs.size = n
theorem Row.mk' (w : World) (z : Value) (size n : Nat) (T : TypeId) : Row (w.alloc (.cells (mkCells z size n) T)) w.heap.size (n * size) T := ⟨_, alloc_heap _ _, mkCells_size _ _ _⟩
theorem Row.lt {w : World} {b n : Nat} {T : TypeId} (h : Row w b n T) : b < w.heap.size := by obtain ⟨cs, h, _⟩ := h.is; exact heap_lt h
theorem Row.cell {w : World} {b n : Nat} {T : TypeId} (h : Row w b n T) (j : Nat) (hj : j < n) : ∃ v, w.cell? ⟨b, j, none⟩ = some v := by
  obtain ⟨cs, h, hs⟩ := h.is
  exact ⟨_, (cell_of_heap h j).trans (Array.getElem?_eq_getElem (by omega))⟩
theorem Row.free {w : World} {b n : Nat} {T : TypeId} (h : Row w b n T) (j : Nat) : w.frozen? ⟨b, j, none⟩ = false := by
  obtain ⟨cs, h, _⟩ := h.is; exact frozen_of_heap h j
theorem Row.keep {w w' : World} {b n : Nat} {T : TypeId} (h : Row w b n T) (hb : w'.heap[b]? = w.heap[b]?) : Row w' b n T := by
  obtain ⟨cs, h, hs⟩ := h.is; exact ⟨cs, hb.trans h, hs⟩
theorem Row.set {w : World} {b n : Nat} {T : TypeId} (h : Row w b n T) (j : Nat) (v : Value) : Row (w.setCell ⟨b, j, none⟩ v) b n T := by
  obtain ⟨cs, h, hs⟩ := h.is; exact ⟨_, setCell_heap h v, by simpa using hs⟩
theorem Row.new {w w' : World} {b n : Nat} {T : TypeId} (h : Row w b n T) (k : New w w') : Row w' b n T := h.keep (k.block b h.lt (fun f => f))

theorem heap_set {w : World} {b c o : Nat} {x : Obj} (h : w.heap[b]? = some x) (hb : b ≠ c) (v : Value) : (w.setCell ⟨c, o, none⟩ v).heap[b]? = some x := (Below.heap_setCell _ _ _ _ hb).trans h

/-- what was new at w may be turned -/
theorem New.on {w w1 w2 : World} (h : New w w1) {S : Nat → Prop} (k : Kp S w1 w2) (hs : ∀ i, S i → w.heap.size ≤ i) : New w w2 :=
  ⟨k.os.trans h.os, k.tape.trans h.tape, k.output.trans h.output, Nat.le_trans h.size k.size, fun i hi _ => (k.block i (by have := h.size; omega) (fun s => by have := hs i s; omega)).trans (h.block i hi (fun f => f))⟩
theorem New.one {w w1 w2 : World} (h : New w w1) {b : Nat} (k : One b w1 w2) (hb : w.heap.size ≤ b) : New w w2 := h.on k (fun _ e => e ▸ hb)
theorem One.new {w w1 w2 : World} {b : Nat} (h : One b w w1) (k : New w1 w2) : One b w w2 := h.trans (k.mono fun _ _ f => f.elim)

/-- bytes that came in -/
def Src (w : World) (a : Option Addr) (len cap : Nat) : Prop :=
  len ≤ cap ∧ cap ≤ maxLen ∧ (len = 0 ∨ ∃ b o, a = some ⟨b, o, none⟩ ∧ ∀ i, i < len → ∃ x : Int, 0 ≤ x ∧ x < 256 ∧ w.cell? ⟨b, o + i, none⟩ = some (.int .u8 x))

theorem Src.keep {w w' : World} {a : Option Addr} {len cap : Nat} (h : Src w a len cap) (k : New w w') : Src w' a len cap := by
  refine ⟨h.1, h.2.1, ?_⟩
  rcases h.2.2 with h0 | ⟨b, o, ha, hc⟩
  · exact .inl h0
  · exact .inr ⟨b, o, ha, fun i hi => by
      obtain ⟨x, x0, x1, hx⟩ := hc i hi
      exact ⟨x, x0, x1, by rw [k.cell (cell_lt hx) (fun f => f)]; exact hx⟩⟩

theorem newOf {P : Program} {f : FuncId} {args : Array Value} {w : World} {Q : Ending → Prop} (h : Calls P f args w fun e w' => Q e ∧ ∃ k, w' = w.drewN k) : Calls P f args w fun e w' => Q e ∧ New w w' :=
  h.mono fun _ _ ⟨hq, k, hk⟩ => ⟨hq, hk ▸ drewN_kp _ k (Kp.refl _ _)⟩

/-- xor of two numbers that are not negative is none either -/
theorem xor_nonneg (a b : Int) (ha : 0 ≤ a) (ha' : a < 4611686018427387904) (hb : 0 ≤ b) (hb' : b < 4611686018427387904) : 0 ≤ bits .xor .i64 a b ∧ bits .xor .i64 a b < 4611686018427387904 := by
  obtain ⟨m, rfl⟩ := Int.eq_ofNat_of_zero_le ha
  obtain ⟨n, rfl⟩ := Int.eq_ofNat_of_zero_le hb
  have hx : m ^^^ n < 2 ^ 62 := Nat.xor_lt_two_pow (by omega) (by omega)
  have h1 : (BitVec.ofInt 64 (m : Int)).toNat = m := by
    rw [BitVec.ofInt_natCast, BitVec.toNat_ofNat]; exact Nat.mod_eq_of_lt (by omega)
  have h2 : (BitVec.ofInt 64 (n : Int)).toNat = n := by
    rw [BitVec.ofInt_natCast, BitVec.toNat_ofNat]; exact Nat.mod_eq_of_lt (by omega)
  have e : bits .xor .i64 (m : Int) (n : Int) = ((m ^^^ n : Nat) : Int) := by
    show IntKind.i64.wrap ((BitVec.ofInt 64 (m : Int) ^^^ BitVec.ofInt 64 (n : Int)).toNat : Int) = _
    rw [BitVec.toNat_xor, h1, h2]
    exact IntWalk.i64_in _ (by omega)
  rw [e]
  omega
end Go.Proofs.YtckikiaockkmbaaDoor.Kit

/- A law for a region that draws its order and ends in a tail (stores, assignments) that waits for all the rest: a condition S on the world holds behind every operation ahead of that tail, so what only reads may be taken first. No program in sight. -/
namespace Go.Proofs.YtckikiaockkmbaaDoor
open Go
section
variable {P : Program} {ops : Array Oper} {Q : Exit → Act → World → Prop} {md : Region.Mode} {S : World → Prop} {k : Nat}
/-- whatever order is drawn; S is owed as long as number k has not come -/
def AnyK (P : Program) (md : Region.Mode) (ops : Array Oper) (Q : Exit → Act → World → Prop) (S : World → Prop) (k : Nat) : Nat → Array Bool → Act → World → Prop
  | 0, listed, a, w => Region.ready md ops listed = [] ∧ Q .normal a w
  | f + 1, listed, a, w => (Region.ready md ops listed = [] → Q .normal a w) ∧ ∀ i ∈ Region.ready md ops listed, wpOp P ops Q i (fun a' w' => ((listed.setIfInBounds i true).getD k true = false → S w') ∧ AnyK P md ops Q S k f (listed.setIfInBounds i true) a' w') a w
theorem AnyK.any : ∀ (f : Nat) (listed : Array Bool) (a : Act) (w : World), AnyK P md ops Q S k f listed a w → wpAny P md ops Q f listed a w
  | 0, _, _, _, h => h
  | f + 1, _, _, _, h => ⟨h.1, fun i hi => wpOp_mono (fun a' w' h' => AnyK.any f _ a' w' h'.2) (h.2 i hi)⟩
theorem not_k {i j : Nat} {listed : Array Bool} (hw : Region.waitsFor md ops k i = true) (hi : i ∈ Region.ready md ops listed) (hj : j ∈ Region.ready md ops listed) : j ≠ k := by
  rintro rfl
  obtain ⟨oj, hoj, e, he, hb, hon⟩ := Region.waitsFor_spec hw
  obtain ⟨_, o', ho', hall⟩ := mem_ready.1 hj
  have : o' = oj := Option.some.inj (ho'.symm.trans hoj)
  subst this
  have h2 := hall e he hb
  rw [hon, getD_both (mem_ready.1 hi).1] at h2
  cases h2
theorem set_other {i : Nat} {listed : Array Bool} (h : (listed.setIfInBounds i true).getD k true = false) : listed.getD k true = false := by
  by_cases e : i = k
  · subst e
    rcases Nat.lt_or_ge i listed.size with h' | h'
    · simp [h'] at h
    · simp [h'] at h
  · rwa [getD_set_ne true e] at h
theorem AnyK.first {i : Nat} {oi : Oper} {v : Value} {S0 : World → Prop} (hi : ops[i]? = some oi) (hsel : ∀ (j : Nat) (o : Oper) cs b, ops[j]? = some o → o.op ≠ .select cs b)
    (hQ : ∀ c a w, Q (.panic c) (a.put oi.dst v) w → Q (.panic c) a w) (hw : (∀ w, S0 w) ∨ (S0 = S ∧ Region.waitsFor md ops k i = true)) (hik : i ≠ k) : ∀ (f : Nat) (listed : Array Bool) (a : Act) (w : World),
      (∀ j oj, ops[j]? = some oj → j ≠ i → listed.getD j true = false → (∀ e ∈ oj.after, Region.binds md e = true → e.on ≠ i) → oi.apart ops oj = true) →
      i ∈ Region.ready md ops listed → YieldsIf P ops S0 oi v a → S0 w → (listed.getD k true = false → S w) → ((∀ w, S0 w) ∨ listed.getD k true = false) → AnyK P md ops Q S k f (listed.setIfInBounds i true) (a.put oi.dst v) w → AnyK P md ops Q S k (f + 1) listed a w
  | f, listed, a, w, hfree, hr, hy, hS0, hS, hk, H => by
    refine ⟨fun h => (by rw [h] at hr; cases hr), fun j hj => ?_⟩
    by_cases hji : j = i
    · subst hji; exact hy.wpOp hi hS0 ⟨fun h => hS (set_other h), H⟩
    have hin := ready_mono hj hji
    match f, H with
    | 0, H => rw [H.1] at hin; cases hin
    | f + 1, H =>
      obtain ⟨hjun, oj, hoj, hall⟩ := mem_ready.1 hj
      have hnot : ∀ e ∈ oj.after, Region.binds md e = true → e.on ≠ i := fun e he hb heq => by
        have h1 := hall e he hb
        rw [heq, getD_both (mem_ready.1 hr).1] at h1
        cases h1
      refine wpOp_mono (fun a' w' h3 => ?_) (wpOp_putIf hoj (hfree j oj hoj hji hjun hnot) (fun cs b => hsel i oi cs b hi) (fun cs b => hsel j oj cs b hoj) hQ hy (H.2 j hin))
      have hSw : (listed.setIfInBounds j true).getD k true = false → S w' := fun h => h3.2.1 (by rw [Array.setIfInBounds_comm _ _ (Ne.symm hji), getD_set_ne true hik]; exact h)
      have hjk : (∀ w, S0 w) ∨ (listed.setIfInBounds j true).getD k true = false := by
        rcases hw with hw | hw
        · exact .inl hw
        · rcases hk with hk | hk
          · exact .inl hk
          · exact .inr (by rw [getD_set_ne true (not_k hw.2 hr hj)]; exact hk)
      have hS0' : S0 w' := by
        rcases hjk with h | h
        · exact h w'
        · rcases hw with hw | hw
          · exact hw w'
          · rw [hw.1]; exact hSw h
      refine ⟨hSw, AnyK.first hi hsel hQ hw hik f (listed.setIfInBounds j true) a' w' ?_ (ready_mono hr (Ne.symm hji)) h3.1 hS0' hSw hjk ?_⟩
      · intro q oq hq hqi hun hno
        refine hfree q oq hq hqi ?_ hno
        by_cases e : j = q
        · subst e; exact hjun
        · rw [getD_set_ne true e] at hun; exact hun
      · rw [Array.setIfInBounds_comm _ _ hji]; exact h3.2.2
/-- number i, which reads what S tells of, is taken first -/
theorem AnyK.take {i : Nat} {oi : Oper} {v : Value} {f : Nat} {listed : Array Bool} {a : Act} {w : World} (hi : ops[i]? = some oi) (hs : Region.noSelect ops = true) (hf : Region.free md ops listed i = true)
    (hr : (Region.ready md ops listed).contains i = true) (hw : (Region.waitsFor md ops k i && !(listed.getD k true) && !(i == k)) = true) (hQ : ∀ c a w, Q (.panic c) (a.put oi.dst v) w → Q (.panic c) a w) (hy : YieldsIf P ops S oi v a) (hS : S w)
    (h : AnyK P md ops Q S k f (listed.setIfInBounds i true) (a.put oi.dst v) w) : AnyK P md ops Q S k (f + 1) listed a w := by
  simp only [Bool.and_eq_true, Bool.not_eq_true', beq_eq_false_iff_ne] at hw
  exact AnyK.first hi (Region.noSelect_spec hs) hQ (.inr ⟨rfl, hw.1.1⟩) hw.2 f listed a w (Region.free_spec hi hf) (by simpa using hr) hy hS (fun _ => hS) (.inr hw.1.2) h
/-- number i is all that can come -/
theorem AnyK.step {i : Nat} {o : Oper} {f : Nat} {listed : Array Bool} {a : Act} {w : World} (hr : Region.ready md ops listed = [i]) (ho : ops[i]? = some o)
    (h : ∀ K' : Act → World → Prop, Shut (∀ a w, S w → (S w → AnyK P md ops Q S k f (listed.setIfInBounds i true) a w) → K' a w) → if Region.wanted o (yielded ops a.tmps) = true then Oper.wp P o a w K' Q else K' (a.put o.dst undef) w) :
    AnyK P md ops Q S k (f + 1) listed a w := by
  refine ⟨fun h0 => (by rw [hr] at h0; cases h0), fun j hj => ?_⟩
  rw [hr, List.mem_singleton] at hj
  subst hj
  exact wpOp_step ho (fun K' hK => h K' (fun a w hS hW => hK a w ⟨fun _ => hS, hW hS⟩))
/-- two may come -/
theorem AnyK.two {i j : Nat} {oi oj : Oper} {f : Nat} {listed : Array Bool} {a : Act} {w : World} (hr : Region.ready md ops listed = [i, j]) (hi : ops[i]? = some oi) (hj : ops[j]? = some oj)
    (h1 : ∀ K' : Act → World → Prop, Shut (∀ a w, S w → (S w → AnyK P md ops Q S k f (listed.setIfInBounds i true) a w) → K' a w) → if Region.wanted oi (yielded ops a.tmps) = true then Oper.wp P oi a w K' Q else K' (a.put oi.dst undef) w)
    (h2 : ∀ K' : Act → World → Prop, Shut (∀ a w, S w → (S w → AnyK P md ops Q S k f (listed.setIfInBounds j true) a w) → K' a w) → if Region.wanted oj (yielded ops a.tmps) = true then Oper.wp P oj a w K' Q else K' (a.put oj.dst undef) w) :
    AnyK P md ops Q S k (f + 1) listed a w := by
  refine ⟨fun h0 => (by rw [hr] at h0; cases h0), fun q hq => ?_⟩
  rw [hr, List.mem_cons, List.mem_singleton] at hq
  rcases hq with rfl | rfl
  · exact wpOp_step hi (fun K' hK => h1 K' (fun a w hS hW => hK a w ⟨fun _ => hS, hW hS⟩))
  · exact wpOp_step hj (fun K' hK => h2 K' (fun a w hS hW => hK a w ⟨fun _ => hS, hW hS⟩))
end
end Go.Proofs.YtckikiaockkmbaaDoor

/- Contracts of the label functions (LabelValid, LabelSecret, LabelTrusted, LabelFlows, JoinLabels, MeetLabels) of spec and of impl: what each returns, for all integers. No conditions. -/
namespace Go.Proofs.YtckikiaockkmbaaDoor.Lab
open Go.RowKit

theorem retB {a b : Bool} (h : a = b) : Ending.returned (.bool a) = .returned (.bool b) := by rw [h]
theorem retI {k : IntKind} {a b : Int} (h : a = b) : Ending.returned (.int k a) = .returned (.int k b) := by rw [h]

/-- l is a label -/
def okL (l : Int) : Bool := decide (0 ≤ l ∧ l ≤ 3)
theorem okL_iff {l : Int} : okL l = true ↔ (0 ≤ l ∧ l ≤ 3) := by simp [okL]
theorem okL_cases {l : Int} (h : okL l = true) : l = 0 ∨ l = 1 ∨ l = 2 ∨ l = 3 := by rw [okL_iff] at h; omega

def inside (n lo hi : Int) : Bool := decide (lo ≤ n ∧ n ≤ hi)
theorem within (n lo hi : Int) (w : World) : Calls Tryd.prog 22 #[.int .i64 n, .int .i64 lo, .int .i64 hi] w fun e w' => e = .returned (.bool (inside n lo hi)) ∧ w = w' := by
  by_cases h1 : lo ≤ n
  · by_cases h2 : n ≤ hi
    · go_enter Tryd.func22, Tryd.ntmps22
      go_wp2
      go_ret
      exact ⟨retB (by simp [inside, h1, h2]), rfl⟩
    · go_enter Tryd.func22, Tryd.ntmps22
      go_wp2
      go_ret
      exact ⟨retB (by simp [inside]; omega), rfl⟩
  · go_enter Tryd.func22, Tryd.ntmps22
    go_wp2
    go_ret
    exact ⟨retB (by simp [inside]; omega), rfl⟩

theorem specLabelValid (l : Int) (w : World) : Calls Tryd.prog 63 #[.int .i64 l] w fun e w' => e = .returned (.bool (okL l)) ∧ w = w' := by
  by_cases h1 : 0 ≤ l
  · by_cases h2 : l ≤ 3
    · go_enter Tryd.func63, Tryd.ntmps63
      go_wp2
      go_ret
      exact ⟨retB (by simp [okL, h1, h2]), rfl⟩
    · go_enter Tryd.func63, Tryd.ntmps63
      go_wp2
      go_ret
      exact ⟨retB (by simp [okL]; omega), rfl⟩
  · go_enter Tryd.func63, Tryd.ntmps63
    go_wp2
    go_ret
    exact ⟨retB (by simp [okL]; omega), rfl⟩

theorem implLabelValid (l : Int) (w : World) : Calls Tryd.prog 85 #[.int .i64 l] w fun e w' => e = .returned (.bool (okL l)) ∧ w = w' := by
  go_enter Tryd.func85, Tryd.ntmps85
  go_wp2_with (go_at_call 22; refine (within _ _ _ _).mono ?_; rintro e w' ⟨rfl, rfl⟩)
  go_ret
  exact ⟨rfl, rfl⟩

def flowsB (a b : Int) : Bool := bits .andNot .i64 a b == 0

def secretB (l : Int) : Bool := l == 1 || l == 3


def trustedB (l : Int) : Bool := l == 0 || l == 1




def joinL (a b : Int) : Int := if okL a && okL b then bits .or .i64 a b else 3
def meetL (a b : Int) : Int := if okL a && okL b then bits .and .i64 a b else 0
def leL (a b : Int) : Bool := okL a && okL b && flowsB a b







end Go.Proofs.YtckikiaockkmbaaDoor.Lab

/- The random source l17Rd: l17Open, pick, num: what they return is in range, and which memory they turn. Condition: fewer than 2^40 picks so far. -/
namespace Go.Proofs.YtckikiaockkmbaaDoor.Draw
open Go.BigFrame
open Go.RowKit Kit
set_option linter.unusedVariables false

/-- the source lies in block br: its bytes below br, p picks so far -/
structure Rd (w : World) (br : Nat) (p : Nat) : Prop where
  src : ∃ (a : Option Addr) (len cap : Nat), w.heap[br]? = some (.cells #[.slice a len cap, .int .i64 p] 97 (0, 0)) ∧
    (len = 0 ∨ ∃ b o, a = some ⟨b, o, none⟩ ∧ b < br ∧ len ≤ 2000 ∧ len ≤ cap ∧ ∀ i, i < len → ∃ x : Int, 0 ≤ x ∧ x < 256 ∧ w.cell? ⟨b, o + i, none⟩ = some (.int .u8 x))

theorem Rd.lt {w : World} {br p : Nat} (h : Rd w br p) : br < w.heap.size := by
  obtain ⟨a, len, cap, hh, _⟩ := h.src
  exact heap_lt hh

/-- the source stays where neither its block nor what lies below is turned -/
theorem Rd.keep {w w' : World} {br p : Nat} (h : Rd w br p) {S : Nat → Prop} (k : Kp S w w') (hs : ∀ k, S k → br < k) : Rd w' br p := by
  have hlt := h.lt
  obtain ⟨a, len, cap, hh, hb⟩ := h.src
  refine ⟨a, len, cap, by rw [k.block br hlt (fun s => by have := hs _ s; omega)]; exact hh, ?_⟩
  rcases hb with h0 | ⟨b, o, ha, hbr, h2, h3, hc⟩
  · exact .inl h0
  · exact .inr ⟨b, o, ha, hbr, h2, h3, fun i hi => by
      obtain ⟨x, x0, x1, hx⟩ := hc i hi
      exact ⟨x, x0, x1, by rw [k.cell (by omega) (fun s => by have := hs _ s; omega)]; exact hx⟩⟩


theorem mixed (X n : Int) (h0 : 0 ≤ X) (h1 : X < 2305843009213693952) (hn : 1 ≤ n) : 0 ≤ (bits .xor .i64 X (X / 64)).tmod n ∧ (bits .xor .i64 X (X / 64)).tmod n < n := by
  obtain ⟨a, _⟩ := xor_nonneg X (X / 64) h0 (by omega) (by omega) (by omega)
  exact ⟨Int.tmod_nonneg _ a, by rw [Int.tmod_eq_emod_of_nonneg a]; exact Int.emod_lt_of_pos _ (by omega)⟩

set_option maxHeartbeats 400000 in
theorem pick_zero (w : World) (br p : Nat) (n : Int) (a : Option Addr) (len cap : Nat) (hp : p < 1099511627776)
    (c0 : w.cell? ⟨br, 0, none⟩ = some (.slice a len cap)) (c1 : w.cell? ⟨br, 1, none⟩ = some (.int .i64 p)) (f1 : w.frozen? ⟨br, 1, none⟩ = false) (h : n < 1 ∨ len = 0) :
    Calls Tryd.prog 41 #[.pointer (some ⟨br, 0, none⟩), .int .i64 n] w fun e w' => e = .returned (.int .i64 0) ∧ w' = w.setCell ⟨br, 1, none⟩ (.int .i64 (p + 1 : Int)) := by
  by_cases hn : n < 1
  · go_enter Tryd.func41, Tryd.ntmps41
    go_wp2
    go_ret
    exact ⟨rfl, rfl⟩
  · obtain rfl : len = 0 := by omega
    clear h
    go_enter Tryd.func41, Tryd.ntmps41
    go_wp2
    go_ret
    exact ⟨rfl, rfl⟩


set_option maxHeartbeats 400000 in
theorem pick_byte (w : World) (br p : Nat) (n : Int) (b o len cap : Nat) (x : Int) (hp : p < 1099511627776) (hne : ¬ br = b) (x0 : 0 ≤ x) (x1 : x < 256) (hl : len ≤ 2000)
    (c0 : w.cell? ⟨br, 0, none⟩ = some (.slice (some ⟨b, o, none⟩) len cap)) (c1 : w.cell? ⟨br, 1, none⟩ = some (.int .i64 p)) (f1 : w.frozen? ⟨br, 1, none⟩ = false) (hn : 1 ≤ n) (hlt : p < len)
    (hx : w.cell? ⟨b, o + p, none⟩ = some (.int .u8 x)) :
    Calls Tryd.prog 41 #[.pointer (some ⟨br, 0, none⟩), .int .i64 n] w fun e w' => e = .returned (.int .i64 (x % n)) ∧ w' = w.setCell ⟨br, 1, none⟩ (.int .i64 (p + 1 : Int)) := by
  have h0 : ((len : Int) == 0) = false := by simp; omega
  go_enter Tryd.func41, Tryd.ntmps41
  go_wp2
  go_ret
  exact ⟨rfl, rfl⟩


set_option maxHeartbeats 400000 in
theorem pick_mix (w : World) (br p : Nat) (n : Int) (b o len cap : Nat) (x y : Int) (hp : p < 1099511627776) (hne : ¬ br = b) (x0 : 0 ≤ x) (x1 : x < 256) (y0 : 0 ≤ y) (y1 : y < 256) (hl : len ≤ 2000)
    (c0 : w.cell? ⟨br, 0, none⟩ = some (.slice (some ⟨b, o, none⟩) len cap)) (c1 : w.cell? ⟨br, 1, none⟩ = some (.int .i64 p)) (f1 : w.frozen? ⟨br, 1, none⟩ = false) (hn : 1 ≤ n) (h1 : 0 < len) (hge : len ≤ p)
    (hx : w.cell? ⟨b, o + p % len, none⟩ = some (.int .u8 x)) (hy : w.cell? ⟨b, o + (p * 7 + 3) % len, none⟩ = some (.int .u8 y)) :
    Calls Tryd.prog 41 #[.pointer (some ⟨br, 0, none⟩), .int .i64 n] w fun e w' => (∃ v : Int, e = .returned (.int .i64 v) ∧ 0 ≤ v ∧ v < n) ∧ ∃ k, w' = (w.setCell ⟨br, 1, none⟩ (.int .i64 (p + 1 : Int))).drewN k := by
  have h0 : ((len : Int) == 0) = false := by simp; omega
  go_enter Tryd.func41, Tryd.ntmps41
  have hz : ¬ len = 0 := by omega
  have e2 : IntKind.i64.wrap ((p : Int) * 7) = (p : Int) * 7 := IntWalk.i64_in _ (by omega)
  have e3 : IntKind.i64.wrap ((p : Int) * 7 + 3) = (p : Int) * 7 + 3 := IntWalk.i64_in _ (by omega)
  have d1 : (0 : Int) ≤ (p : Int) / (len : Int) := Int.ediv_nonneg (by omega) (by omega)
  have d2 : (p : Int) / (len : Int) ≤ (p : Int) := Int.ediv_le_self _ (by omega)
  have q1 : (0 : Int) ≤ (p : Int) % (len : Int) := Int.emod_nonneg _ (by omega)
  have q2 : (p : Int) % (len : Int) < (len : Int) := Int.emod_lt_of_pos _ (by omega)
  have q3 : ((p : Int) % (len : Int)).toNat = p % len := by rw [← Int.natCast_emod]; rfl
  have r1 : (0 : Int) ≤ ((p : Int) * 7 + 3) % (len : Int) := Int.emod_nonneg _ (by omega)
  have r2 : ((p : Int) * 7 + 3) % (len : Int) < (len : Int) := Int.emod_lt_of_pos _ (by omega)
  have r3 : (((p : Int) * 7 + 3) % (len : Int)).toNat = (p * 7 + 3) % len := by
    rw [show (p : Int) * 7 + 3 = ((p * 7 + 3 : Nat) : Int) by omega, ← Int.natCast_emod]; rfl
  go_wp2
  go_quiet (fail)
  go_wp2
  go_ret
  refine ⟨⟨_, rfl, ?_⟩, _, rfl⟩
  exact mixed _ n (by omega) (by omega) hn

theorem one_setCell (w : World) (br o : Nat) (v : Value) : One br w (w.setCell ⟨br, o, none⟩ v) := (Kp.refl (fun k => k = br) w).setCell (p := ⟨br, o, none⟩) (.inl rfl) v

theorem Rd.step {w : World} {br p : Nat} (h : Rd w br p) (k : Nat) : Rd ((w.setCell ⟨br, 1, none⟩ (.int .i64 (p + 1 : Int))).drewN k) br (p + 1) := by
  obtain ⟨a, len, cap, hh, hb⟩ := h.src
  refine ⟨a, len, cap, ?_, ?_⟩
  · rw [drewN_heap, setCell_heap hh]; rfl
  · rcases hb with h0 | ⟨b, o, ha, hbr, h2, h3, hc⟩
    · exact .inl h0
    · exact .inr ⟨b, o, ha, hbr, h2, h3, fun i hi => by
        obtain ⟨x, x0, x1, hx⟩ := hc i hi
        refine ⟨x, x0, x1, ?_⟩
        have hk : One br w ((w.setCell ⟨br, 1, none⟩ (.int .i64 (p + 1 : Int))).drewN k) := drewN_kp _ k (one_setCell w br 1 _)
        rw [hk.cell (by have := cell_lt hx; omega) (by omega)]; exact hx⟩

/-- what pick leaves -/
def Picked (w : World) (br p : Nat) (n : Int) (e : Ending) (w' : World) : Prop :=
  ∃ v : Int, e = .returned (.int .i64 v) ∧ 0 ≤ v ∧ (1 ≤ n → v < n) ∧ (n < 1 → v = 0) ∧ One br w w' ∧ Rd w' br (p + 1)

theorem pick (w : World) (br p : Nat) (n : Int) (h : Rd w br p) (hp : p < 1099511627776) :
    Calls Tryd.prog 41 #[.pointer (some ⟨br, 0, none⟩), .int .i64 n] w (Picked w br p n) := by
  obtain ⟨a, len, cap, hh, hb⟩ := h.src
  have c0 := cell_of_heap hh 0
  have c1 := cell_of_heap hh 1
  have f1 := frozen_of_heap hh 1
  by_cases hz : n < 1 ∨ len = 0
  · refine (pick_zero w br p n a len cap hp c0 c1 f1 hz).mono ?_
    rintro e w' ⟨rfl, rfl⟩
    exact ⟨0, rfl, by omega, by omega, fun _ => rfl, one_setCell _ _ _ _, h.step 0⟩
  · rcases hb with h0 | ⟨b, o, rfl, hbr, h2, h3, hc⟩
    · omega
    · by_cases hlt : p < len
      · obtain ⟨x, x0, x1, hx⟩ := hc p hlt
        refine (pick_byte w br p n b o len cap x hp (by omega) x0 x1 h2 c0 c1 f1 (by omega) hlt hx).mono ?_
        rintro e w' ⟨rfl, rfl⟩
        exact ⟨_, rfl, Int.emod_nonneg _ (by omega), fun h => Int.emod_lt_of_pos _ (by omega), fun h => by omega, one_setCell _ _ _ _, h.step 0⟩
      · obtain ⟨x, x0, x1, hx⟩ := hc (p % len) (Nat.mod_lt _ (by omega))
        obtain ⟨y, y0, y1, hy⟩ := hc ((p * 7 + 3) % len) (Nat.mod_lt _ (by omega))
        refine (pick_mix w br p n b o len cap x y hp (by omega) x0 x1 y0 y1 h2 c0 c1 f1 (by omega) (by omega) (by omega) hx hy).mono ?_
        rintro e w' ⟨⟨v, rfl, v0, v1⟩, k, rfl⟩
        exact ⟨v, rfl, v0, fun _ => v1, fun h => by omega, drewN_kp _ k (one_setCell _ _ _ _), h.step k⟩

/-- what num leaves: one of the list's numbers -/
def Drawn (w : World) (br p : Nat) (Q : Int → Prop) (e : Ending) (w' : World) : Prop :=
  ∃ v : Int, e = .returned (.int .i64 v) ∧ Q v ∧ One br w w' ∧ Rd w' br (p + 1)

set_option maxHeartbeats 400000 in
theorem num (w : World) (br p : Nat) (b n cap : Nat) (Q : Int → Prop) (h : Rd w br p) (hp : p < 1099511627776) (hn : 1 ≤ n) (hb : ¬ br = b) (hm : n ≤ 1000)
    (hc : ∀ i, i < n → ∃ x : Int, Q x ∧ w.cell? ⟨b, i, none⟩ = some (.int .i64 x)) :
    Calls Tryd.prog 42 #[.pointer (some ⟨br, 0, none⟩), .slice (some ⟨b, 0, none⟩) n cap] w (Drawn w br p Q) := by
  have H := Lib.hid hc; clear hc
  go_enter Tryd.func42, Tryd.ntmps42
  go_wp2_with fail
  refine (pick w br p _ h hp).mono ?_
  rintro e w1 ⟨v, rfl, v0, v1, _, h1, h2⟩
  have v2 : v < n := v1 (by omega)
  obtain ⟨k, rfl⟩ := Int.eq_ofNat_of_zero_le v0
  obtain ⟨x, hx, hcx⟩ := H.out k (by omega)
  have hcell : w1.cell? ⟨b, k, none⟩ = some (.int .i64 x) := by rw [h1.cell (cell_lt hcx) (by omega)]; exact hcx
  clear v1 hcx
  go_wp2
  go_ret
  exact ⟨x, rfl, hx, h1, h2⟩

set_option maxHeartbeats 400000 in
/-- l17Open: a new source -/
theorem l17Open (w : World) (a : Option Addr) (len cap : Nat) (hlc : len ≤ cap) (hm : cap ≤ maxLen) (hc : len = 0 ∨ ∃ b o, a = some ⟨b, o, none⟩ ∧ ∀ i, i < len → ∃ x : Int, 0 ≤ x ∧ x < 256 ∧ w.cell? ⟨b, o + i, none⟩ = some (.int .u8 x)) :
    Calls Tryd.prog 39 #[.slice a len cap] w fun e w' => e = .returned (.pointer (some ⟨w.heap.size, 0, none⟩)) ∧ New w w' ∧ Rd w' w.heap.size 0 := by
  unfold maxLen at hm
  by_cases hl : 2000 < len
  · rcases hc with h0 | ⟨b, o, rfl, hc⟩
    · omega
    · have H := Lib.hid hc; clear hc
      go_enter Tryd.func39, Tryd.ntmps39
      go_wp2
      go_ret
      refine ⟨rfl, (Kp.refl _ _).alloc _, ⟨_, _, _, alloc_heap _ _, .inr ⟨b, o, rfl, ?_, by omega, by omega, fun i hi => ?_⟩⟩⟩
      · obtain ⟨x, _, _, hx⟩ := H.out 0 (by omega)
        exact cell_lt hx
      · obtain ⟨x, x0, x1, hx⟩ := H.out i (by omega)
        exact ⟨x, x0, x1, by rw [World.cell?_alloc_lt _ _ _ (cell_lt hx)]; exact hx⟩
  · have H := Lib.hid hc; clear hc
    go_enter Tryd.func39, Tryd.ntmps39
    go_wp2
    go_ret
    refine ⟨rfl, (Kp.refl _ _).alloc _, ⟨_, _, _, alloc_heap _ _, ?_⟩⟩
    rcases H.out with h0 | ⟨b, o, rfl, hc⟩
    · exact .inl h0
    · by_cases h0 : len = 0
      · exact .inl h0
      · refine .inr ⟨b, o, rfl, ?_, by omega, hlc, fun i hi => ?_⟩
        · obtain ⟨x, _, _, hx⟩ := hc 0 (by omega)
          exact cell_lt hx
        · obtain ⟨x, x0, x1, hx⟩ := hc i (by omega)
          exact ⟨x, x0, x1, by rw [World.cell?_alloc_lt _ _ _ (cell_lt hx)]; exact hx⟩

end Go.Proofs.YtckikiaockkmbaaDoor.Draw

/- Short words for walks of drawn regions. No program in sight; no conditions. -/
namespace Go.Proofs.YtckikiaockkmbaaDoor
open Go Kit Draw
namespace Kit
section
variable {S : Nat → Prop} {a w w' : World} {b : Nat}
theorem Kp.bk {x : Obj} (h : Kp S w w') (e : w.heap[b]? = some x) (hs : ¬ S b := by exact fun f => f) : w'.heap[b]? = some x := (h.block _ (heap_lt e) hs).trans e
variable {cs : Array Value} {T : TypeId} {f : Nat × Nat} (h : w.heap[b]? = some (.cells cs T f))
include h
theorem cells2 : w.cell? ⟨b, 0, none⟩ = cs[0]? ∧ w.cell? ⟨b, 1, none⟩ = cs[1]? := ⟨cell_of_heap h 0, cell_of_heap h 1⟩
theorem cells3 : w.cell? ⟨b, 0, none⟩ = cs[0]? ∧ w.cell? ⟨b, 1, none⟩ = cs[1]? ∧ w.cell? ⟨b, 2, none⟩ = cs[2]? := ⟨cell_of_heap h 0, cell_of_heap h 1, cell_of_heap h 2⟩
theorem cells8 : w.cell? ⟨b, 0, none⟩ = cs[0]? ∧ w.cell? ⟨b, 1, none⟩ = cs[1]? ∧ w.cell? ⟨b, 2, none⟩ = cs[2]? ∧ w.cell? ⟨b, 3, none⟩ = cs[3]? ∧ w.cell? ⟨b, 4, none⟩ = cs[4]? ∧ w.cell? ⟨b, 5, none⟩ = cs[5]? ∧ w.cell? ⟨b, 6, none⟩ = cs[6]? ∧
    w.cell? ⟨b, 7, none⟩ = cs[7]? := ⟨cell_of_heap h 0, cell_of_heap h 1, cell_of_heap h 2, cell_of_heap h 3, cell_of_heap h 4, cell_of_heap h 5, cell_of_heap h 6, cell_of_heap h 7⟩
end
end Kit
theorem Draw.Rd.kp {w w' : World} {br p b : Nat} (h : Rd w br p) (k : Kp (fun i => i = b) w w') (hb : br < b := by omega) : Rd w' br p := h.keep k (fun _ e => by omega)
theorem AP : (∀ (d : Tmp) (v : Value) (a : Act), a.put (some d) v = ⟨a.tmps.setIfInBounds d v, a.defers⟩) ∧ (∀ (v : Value) (a : Act), a.put none v = a) ∧
    (∀ {α : Type} (l : List α) (i : Nat) (h : i < l.toArray.size), l.toArray[i]'h = l[i]'h) ∧ (∀ {α : Type} (a : α) (l : List α) (h : 0 < (a :: l).length), (a :: l)[0]'h = a) ∧
    (∀ {α : Type} (a : α) (l : List α) (i : Nat) (h : i + 1 < (a :: l).length), (a :: l)[i + 1]'h = l[i]'(Nat.lt_of_succ_lt_succ h)) ∧ (∀ {α : Type} (l : List α) (i : Nat) (a : α), l.toArray.setIfInBounds i a = (l.set i a).toArray) ∧
    (∀ {α : Type} (a b : α) (l : List α), (a :: l).set 0 b = b :: l) ∧ (∀ {α : Type} (a b : α) (l : List α) (n : Nat), (a :: l).set (n + 1) b = a :: l.set n b) :=
  ⟨fun _ _ _ => rfl, fun _ _ => rfl, fun _ _ _ => by simp, fun _ _ _ => rfl, fun _ _ _ _ => rfl, fun _ _ _ => by simp, fun _ _ _ => rfl, fun _ _ _ _ => rfl⟩
section
variable {P : Program} {ops : Array Oper} {Q : Exit → Act → World → Prop} {md : Region.Mode} {S : World → Prop} {k : Nat} {f : Nat} {listed : Array Bool} {a : Act} {w : World}
theorem HT (i : Nat) {oi : Oper} {v : Value} (hi : ops[i]? = some oi) (h : wpAnyH P md ops Q S f (listed.setIfInBounds i true) (a.put oi.dst v) w) (hs : Region.noSelect ops = true := by kernel_rfl) (hf : Region.free md ops listed i = true := by kernel_rfl)
    (hr : (Region.ready md ops listed).contains i = true := by kernel_rfl) (hS : S w := by assumption)
    (hy : YieldsIf P ops S oi v a := by refine Or.inl ⟨by kernel_rfl, ?_⟩; intro w hSw; (try dsimp only at hSw); go_simp; (try with_reducible rfl)) (hQ : ∀ c a w, Q (.panic c) (a.put oi.dst v) w → Q (.panic c) a w := by exact fun _ _ _ h => h) : wpAnyH P md ops Q S (f + 1) listed a w :=
  wpAnyH_take hi hs hf hr hQ hy hS h
theorem HS (i : Nat) {oi : Oper} (hi : ops[i]? = some oi) (h : wpAnyH P md ops Q S f (listed.setIfInBounds i true) (a.put oi.dst undef) w) (hs : Region.noSelect ops = true := by kernel_rfl) (hf : Region.free md ops listed i = true := by kernel_rfl)
    (hr : (Region.ready md ops listed).contains i = true := by kernel_rfl) (hS : S w := by assumption) (hw : Region.wanted oi (yielded ops a.tmps) = false := by kernel_rfl) (hQ : ∀ c a w, Q (.panic c) (a.put oi.dst undef) w → Q (.panic c) a w := by exact fun _ _ _ h => h) : wpAnyH P md ops Q S (f + 1) listed a w :=
  wpAnyH_take hi hs hf hr hQ (Or.inr ⟨hw, rfl⟩) hS h
theorem HR (i : Nat) {o : Oper} (hi : ops[i]? = some o)
    (h : ∀ K' : Act → World → Prop, Shut (∀ a w, S w → (S w → wpAnyH P md ops Q S f (listed.setIfInBounds i true) a w) → K' a w) → if Region.wanted o (yielded ops a.tmps) = true then Oper.wp P o a w K' Q else K' (a.put o.dst undef) w)
    (hr : Region.ready md ops listed = [i] := by kernel_rfl) : wpAnyH P md ops Q S (f + 1) listed a w :=
  wpAnyH_ready hr (by simp) (AllReadyH.cons hi h AllReadyH.nil)
end
end Go.Proofs.YtckikiaockkmbaaDoor
