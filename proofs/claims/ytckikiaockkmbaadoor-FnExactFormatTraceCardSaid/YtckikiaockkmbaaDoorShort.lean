/- Short words for walks of drawn regions. No program in sight; no conditions. -/
import Derived.Test.YtckikiaockkmbaaDoorTail
import Derived.Test.YtckikiaockkmbaaDoorKit
import Derived.Test.YtckikiaockkmbaaDoorDraw
import Derived.Deep.RegionHeld3
namespace Go.Proofs.YtckikiaockkmbaaDoor
open Go Kit Draw
namespace Kit
section
variable {S : Nat → Prop} {a w w' : World} {b : Nat}
theorem Kp.bk {x : Obj} (h : Kp S w w') (e : w.heap[b]? = some x) (hs : ¬ S b := by exact fun f => f) : w'.heap[b]? = some x := (h.block _ (heap_lt e) hs).trans e
theorem Kp.bo {x : Obj} (h : Kp S w w') (e : w.heap[b]? = some x) (hs : ¬ S b := by omega) : w'.heap[b]? = some x := (h.block _ (heap_lt e) hs).trans e
theorem Kp.nw (h : Kp S a w) (k : New w w') : Kp S a w' := h.trans (k.mono fun _ _ f => f.elim)
theorem newb (w : World) (x : Obj) : New w (w.alloc x) ∧ w.heap.size < (w.alloc x).heap.size ∧ (w.alloc x).heap[w.heap.size]? = some x := ⟨(Kp.refl _ _).alloc _, by simp, alloc_heap _ _⟩
variable {cs : Array Value} {T : TypeId} {f : Nat × Nat} (h : w.heap[b]? = some (.cells cs T f))
include h
theorem cells2 : w.cell? ⟨b, 0, none⟩ = cs[0]? ∧ w.cell? ⟨b, 1, none⟩ = cs[1]? := ⟨cell_of_heap h 0, cell_of_heap h 1⟩
theorem cells3 : w.cell? ⟨b, 0, none⟩ = cs[0]? ∧ w.cell? ⟨b, 1, none⟩ = cs[1]? ∧ w.cell? ⟨b, 2, none⟩ = cs[2]? := ⟨cell_of_heap h 0, cell_of_heap h 1, cell_of_heap h 2⟩
theorem cells4 : w.cell? ⟨b, 0, none⟩ = cs[0]? ∧ w.cell? ⟨b, 1, none⟩ = cs[1]? ∧ w.cell? ⟨b, 2, none⟩ = cs[2]? ∧ w.cell? ⟨b, 3, none⟩ = cs[3]? := ⟨cell_of_heap h 0, cell_of_heap h 1, cell_of_heap h 2, cell_of_heap h 3⟩
theorem cells5 : w.cell? ⟨b, 0, none⟩ = cs[0]? ∧ w.cell? ⟨b, 1, none⟩ = cs[1]? ∧ w.cell? ⟨b, 2, none⟩ = cs[2]? ∧ w.cell? ⟨b, 3, none⟩ = cs[3]? ∧ w.cell? ⟨b, 4, none⟩ = cs[4]? :=
  ⟨cell_of_heap h 0, cell_of_heap h 1, cell_of_heap h 2, cell_of_heap h 3, cell_of_heap h 4⟩
theorem cells6 : w.cell? ⟨b, 0, none⟩ = cs[0]? ∧ w.cell? ⟨b, 1, none⟩ = cs[1]? ∧ w.cell? ⟨b, 2, none⟩ = cs[2]? ∧ w.cell? ⟨b, 3, none⟩ = cs[3]? ∧ w.cell? ⟨b, 4, none⟩ = cs[4]? ∧ w.cell? ⟨b, 5, none⟩ = cs[5]? :=
  ⟨cell_of_heap h 0, cell_of_heap h 1, cell_of_heap h 2, cell_of_heap h 3, cell_of_heap h 4, cell_of_heap h 5⟩
theorem cells8 : w.cell? ⟨b, 0, none⟩ = cs[0]? ∧ w.cell? ⟨b, 1, none⟩ = cs[1]? ∧ w.cell? ⟨b, 2, none⟩ = cs[2]? ∧ w.cell? ⟨b, 3, none⟩ = cs[3]? ∧ w.cell? ⟨b, 4, none⟩ = cs[4]? ∧ w.cell? ⟨b, 5, none⟩ = cs[5]? ∧ w.cell? ⟨b, 6, none⟩ = cs[6]? ∧
    w.cell? ⟨b, 7, none⟩ = cs[7]? := ⟨cell_of_heap h 0, cell_of_heap h 1, cell_of_heap h 2, cell_of_heap h 3, cell_of_heap h 4, cell_of_heap h 5, cell_of_heap h 6, cell_of_heap h 7⟩
end
end Kit
theorem Draw.Rd.nw {w w' : World} {br p : Nat} (h : Rd w br p) (k : New w w') : Rd w' br p := h.keep k (fun _ f => f.elim)
theorem Draw.Rd.kp {w w' : World} {br p b : Nat} (h : Rd w br p) (k : Kp (fun i => i = b) w w') (hb : br < b := by omega) : Rd w' br p := h.keep k (fun _ e => by omega)
theorem AP : (∀ (d : Tmp) (v : Value) (a : Act), a.put (some d) v = ⟨a.tmps.setIfInBounds d v, a.defers⟩) ∧ (∀ (v : Value) (a : Act), a.put none v = a) ∧
    (∀ {α : Type} (l : List α) (i : Nat) (h : i < l.toArray.size), l.toArray[i]'h = l[i]'h) ∧ (∀ {α : Type} (a : α) (l : List α) (h : 0 < (a :: l).length), (a :: l)[0]'h = a) ∧
    (∀ {α : Type} (a : α) (l : List α) (i : Nat) (h : i + 1 < (a :: l).length), (a :: l)[i + 1]'h = l[i]'(Nat.lt_of_succ_lt_succ h)) ∧ (∀ {α : Type} (l : List α) (i : Nat) (a : α), l.toArray.setIfInBounds i a = (l.set i a).toArray) ∧
    (∀ {α : Type} (a b : α) (l : List α), (a :: l).set 0 b = b :: l) ∧ (∀ {α : Type} (a b : α) (l : List α) (n : Nat), (a :: l).set (n + 1) b = a :: l.set n b) :=
  ⟨fun _ _ _ => rfl, fun _ _ => rfl, fun _ _ _ => by simp, fun _ _ _ => rfl, fun _ _ _ _ => rfl, fun _ _ _ => by simp, fun _ _ _ => rfl, fun _ _ _ _ => rfl⟩
section
variable {P : Program} {ops : Array Oper} {Q : Exit → Act → World → Prop} {md : Region.Mode} {S : World → Prop} {k : Nat} {f : Nat} {listed : Array Bool} {a : Act} {w : World}
theorem AnyK.tk (i : Nat) {oi : Oper} {v : Value} (hi : ops[i]? = some oi)
    (h : AnyK P md ops Q S k f (listed.setIfInBounds i true) (a.put oi.dst v) w) (hs : Region.noSelect ops = true := by kernel_rfl) (hf : Region.free md ops listed i = true := by kernel_rfl)
    (hr : (Region.ready md ops listed).contains i = true := by kernel_rfl) (hw : (Region.waitsFor md ops k i && !(listed.getD k true) && !(i == k)) = true := by kernel_rfl) (hS : S w := by assumption)
    (hy : YieldsIf P ops S oi v a := by refine Or.inl ⟨by kernel_rfl, ?_⟩; intro w hSw; (try dsimp only at hSw); go_simp; (try with_reducible rfl)) (hQ : ∀ c a w, Q (.panic c) (a.put oi.dst v) w → Q (.panic c) a w := by exact fun _ _ _ h => h) : AnyK P md ops Q S k (f + 1) listed a w :=
  AnyK.take hi hs hf hr hw hQ hy hS h
theorem AnyK.tw (i : Nat) {oi : Oper} {v : Value} (hi : ops[i]? = some oi)
    (h : AnyK P md ops Q S k f (listed.setIfInBounds i true) (a.put oi.dst v) w) (hs : Region.noSelect ops = true := by kernel_rfl) (hf : Region.free md ops listed i = true := by kernel_rfl)
    (hr : (Region.ready md ops listed).contains i = true := by kernel_rfl) (hik : (i == k) = false := by kernel_rfl) (hS : S w := by assumption)
    (hy : YieldsIf P ops (fun _ => True) oi v a := by refine Or.inl ⟨by kernel_rfl, ?_⟩; intro w hSw; (try dsimp only at hSw); go_simp; (try with_reducible rfl)) (hQ : ∀ c a w, Q (.panic c) (a.put oi.dst v) w → Q (.panic c) a w := by exact fun _ _ _ h => h) : AnyK P md ops Q S k (f + 1) listed a w :=
  AnyK.takeW hi hs hf hr hik hQ hy hS h
theorem HT (i : Nat) {oi : Oper} {v : Value} (hi : ops[i]? = some oi) (h : wpAnyH P md ops Q S f (listed.setIfInBounds i true) (a.put oi.dst v) w) (hs : Region.noSelect ops = true := by kernel_rfl) (hf : Region.free md ops listed i = true := by kernel_rfl)
    (hr : (Region.ready md ops listed).contains i = true := by kernel_rfl) (hS : S w := by assumption)
    (hy : YieldsIf P ops S oi v a := by refine Or.inl ⟨by kernel_rfl, ?_⟩; intro w hSw; (try dsimp only at hSw); go_simp; (try with_reducible rfl)) (hQ : ∀ c a w, Q (.panic c) (a.put oi.dst v) w → Q (.panic c) a w := by exact fun _ _ _ h => h) : wpAnyH P md ops Q S (f + 1) listed a w :=
  wpAnyH_take hi hs hf hr hQ hy hS h
theorem HS (i : Nat) {oi : Oper} (hi : ops[i]? = some oi) (h : wpAnyH P md ops Q S f (listed.setIfInBounds i true) (a.put oi.dst undef) w) (hs : Region.noSelect ops = true := by kernel_rfl) (hf : Region.free md ops listed i = true := by kernel_rfl)
    (hr : (Region.ready md ops listed).contains i = true := by kernel_rfl) (hS : S w := by assumption) (hw : Region.wanted oi (yielded ops a.tmps) = false := by kernel_rfl) (hQ : ∀ c a w, Q (.panic c) (a.put oi.dst undef) w → Q (.panic c) a w := by exact fun _ _ _ h => h) : wpAnyH P md ops Q S (f + 1) listed a w :=
  wpAnyH_take hi hs hf hr hQ (Or.inr ⟨hw, rfl⟩) hS h
theorem HR (i : Nat) {o : Oper} (hi : ops[i]? = some o)
    (h : ∀ K' : Act → World → Prop, Shut (∀ a w, S w → (S w → wpAnyH P md ops Q S f (listed.setIfInBounds i true) a w) → K' a w) → if Region.wanted o (yielded ops a.tmps) = true then Oper.wp P o a w K' Q else K' (a.put o.dst undef) w)
    (hr : Region.ready md ops listed = [i] := by kernel_rfl) : wpAnyH P md ops Q S (f + 1) listed a w :=
  wpAnyH_ready hr (by simp) (AllReadyH.cons hi h AllReadyH.nil)
end
end Go.Proofs.YtckikiaockkmbaaDoor
