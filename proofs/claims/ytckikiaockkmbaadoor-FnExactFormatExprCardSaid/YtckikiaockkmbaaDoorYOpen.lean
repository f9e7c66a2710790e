/- Arguments opened: what the reader reads as a slice, a struct of ints, a tree, reads so in the plain words of Flat and Tree. No program in sight; no conditions. -/
import Derived.Test.YtckikiaockkmbaaDoorYP2
import Derived.ChangeSame
import Derived.ChangeShapes
import Derived.ChangeArms
import Derived.DataReads
import Derived.ChangeOld
import Derived.Deep.Slices
namespace Go.Proofs.YtckikiaockkmbaaDoor.Open
open Go.RowKit Kit Go.ChangeShapes Go.WideShapes
set_option linter.unusedVariables false
section
variable {H : Type} {enc : TypeId × Value → H} {P : Program} {w : World} {sp : Nat → Bool} {hd : Bool}

/-- a slice, with what each element reads as -/
theorem sl {t e C fuel : Nat} {v : Value} {x : DataW H × List MemPlace} (ht : P.underlying t = some (.slice e)) (hC : P.cellsOf e = C) (hpos : 0 < C) (h : DataW.trod enc P w 0 sp hd fuel t [v] = some x) :
    ∃ a len cap n, v = .slice a len cap ∧ (len = 0 ∨ ∃ b o, a = some ⟨b, o, none⟩ ∧ b < w.heap.size ∧ len ≤ cap ∧ cap ≤ maxLen ∧ n < fuel ∧
      ∀ i, i < len → ∃ cs y, cs.length = C ∧ (∀ t, t < C → w.cell? ⟨b, o + i * C + t, none⟩ = cs[t]?) ∧ DataW.trod enc P w 0 sp hd n e cs = some y) := by
  rcases DataW.trod_slice ht h with ⟨hcs, _⟩ | ⟨a, len, cap, elems, rest, n, hfuel, hcs, _, _, hl, hm, hlen, hel, _, _⟩
  · exact ⟨none, 0, 0, 0, by simpa using hcs, .inl rfl⟩
  · refine ⟨some a, len, cap, n, by simpa using hcs, ?_⟩
    by_cases h0 : len = 0
    · exact .inl h0
    · refine .inr ?_
      have each : ∀ i, i < len → ∃ cs y, w.cells? 0 (a.add (i * C)) C = some cs ∧ DataW.trod enc P w 0 sp hd n e cs = some y := by
        intro i hi
        have he := hel i hi
        rw [List.getElem?_eq_getElem (by omega), Option.bind_eq_some_iff] at he
        obtain ⟨cs, h1, h2⟩ := he
        rw [hC] at h1
        exact ⟨cs, _, h1, h2⟩
      obtain ⟨b, o, spot⟩ := a
      obtain ⟨cs0, y0, hc0, _⟩ := each 0 (by omega)
      obtain ⟨_, hl0, hat0⟩ := World.cells?_some hc0
      have hcell0 := hat0 0 hpos
      rw [List.getElem?_eq_getElem (by omega)] at hcell0
      have hspot : spot = none := by simpa [Addr.add] using World.cell?_spot hcell0
      subst hspot
      refine ⟨b, o, rfl, ?_, hl, hm, by omega, fun i hi => ?_⟩
      · simp only [Nat.zero_mul, add_plain] at hcell0; exact cell_lt hcell0
      · obtain ⟨cs, y, hc, hy⟩ := each i hi
        obtain ⟨_, hlc, hat⟩ := World.cells?_some hc
        refine ⟨cs, y, hlc, fun t ht => ?_, hy⟩
        have := hat t ht
        rwa [add_plain, add_plain] at this

/-- a slice of elements of one sort reads as a list of them -/
theorem flat {α : Type} [Inhabited α] {enc' : α → Nat → Value} {t e C fuel : Nat} {v : Value} {x : DataW H × List MemPlace} (ht : P.underlying t = some (.slice e)) (hC : P.cellsOf e = C) (hpos : 0 < C)
    (hel : ∀ n cs y, DataW.trod enc P w 0 sp hd n e cs = some y → ∃ z : α, ∀ t, t < C → cs[t]? = some (enc' z t)) (h : DataW.trod enc P w 0 sp hd fuel t [v] = some x) :
    ∃ xs : List α, FlR C enc' w 0 w.heap.size v xs := by
  obtain ⟨a, len, cap, n, rfl, h0 | ⟨b, o, rfl, hb, hl, hm, _, hi⟩⟩ := sl ht hC hpos h
  · subst h0; exact ⟨[], .nil _ _⟩
  · by_cases h0 : len = 0
    · subst h0; exact ⟨[], .nil _ _⟩
    · have : ∀ i, i < len → ∃ z : α, ∀ t, t < C → w.cell? ⟨b, o + i * C + t, none⟩ = some (enc' z t) := by
        intro i hlt
        obtain ⟨cs, y, hc, hcell, hy⟩ := hi i hlt
        obtain ⟨z, hz⟩ := hel n cs y hy
        exact ⟨z, fun t ht => (hcell t ht).trans (hz t ht)⟩
      obtain ⟨f, hf⟩ := Go.Deep.choose_lt this
      refine ⟨(List.range len).map f, ?_⟩
      have hlen : ((List.range len).map f).length = len := by simp
      have := FlR.cons (n := C) (enc := enc') (w := w) (lo := 0) (hi := w.heap.size) b o cap ((List.range len).map f) (by omega) (Nat.zero_le _) hb (by omega) (by unfold maxLen at hm; omega) (fun i hlt t ht => by
        simp only [List.getElem_map, List.getElem_range]; exact hf i (by omega) t ht)
      rwa [hlen] at this

theorem ints {t e fuel : Nat} {v : Value} {x : DataW H × List MemPlace} (ht : P.underlying t = some (.slice e)) (he : P.underlying e = some (.int .i64)) (hC : P.cellsOf e = 1) (h : DataW.trod enc P w 0 sp hd fuel t [v] = some x) : ∃ xs, IntsR w 0 w.heap.size v xs :=
  flat ht hC (by omega) (fun n cs y hy => by
    obtain ⟨z, rfl, _⟩ := DataW.trod_int he hy
    exact ⟨z, fun t ht => by obtain rfl : t = 0 := by omega
                             rfl⟩) h

/-- all fields are ints -/
def allInts (P : Program) (fs : Array Field) : Bool := fs.toList.zipIdx.all fun p => p.1.offset == p.2 && P.cellsOf p.1.type == 1 && match P.underlying p.1.type with | some (.int .i64) => true | _ => false

instance : Inhabited Ins := ⟨⟨0, 0, 0, 0, 0⟩⟩
instance : Inhabited Ex := ⟨.node 0 0 []⟩
/-- a slice of expressions -/
theorem kids {t e : Nat} {f0 f1 f2 : Field} (ht : P.underlying t = some (.slice e)) (he : P.underlying e = some (.struct #[f0, f1, f2])) (hC : P.cellsOf e = 3) (h0 : P.underlying f0.type = some (.int .i64)) (h1 : P.underlying f1.type = some (.int .i64)) (h2 : f2.type = t)
    (o0 : f0.offset = 0) (o1 : f1.offset = 1) (o2 : f2.offset = 2) (c0 : P.cellsOf f0.type = 1) (c1 : P.cellsOf f1.type = 1) (c2 : P.cellsOf f2.type = 1) :
    ∀ (fuel : Nat) (v : Value) (x : DataW H × List MemPlace), DataW.trod enc P w 0 sp hd fuel t [v] = some x → ∃ ks, KidsR w 0 w.heap.size v ks := by
  intro fuel
  induction fuel using Nat.strongRecOn with
  | _ fuel ih =>
    intro v x h
    obtain ⟨a, len, cap, n, rfl, hl0 | ⟨b, o, rfl, hb, hl, hm, hn, hi⟩⟩ := sl ht hC (by omega) h
    · subst hl0; exact ⟨[], .nil _ _⟩
    · by_cases hl0 : len = 0
      · subst hl0; exact ⟨[], .nil _ _⟩
      · have each : ∀ i, i < len → ∃ z : Int × Int × Value × List Ex, w.cell? ⟨b, o + i * 3, none⟩ = some (.int .i64 z.1) ∧ w.cell? ⟨b, o + i * 3 + 1, none⟩ = some (.int .i64 z.2.1) ∧ w.cell? ⟨b, o + i * 3 + 2, none⟩ = some z.2.2.1 ∧ KidsR w 0 w.heap.size z.2.2.1 z.2.2.2 := by
          intro i hlt
          obtain ⟨cs, y, hc, hcell, hy⟩ := hi i hlt
          obtain ⟨xs, m, hnm, _, _, hxl, hf⟩ := DataW.trod_struct he hy
          match cs, hc with
          | [v0, v1, v2], _ =>
            have g0 := hf 0 f0 rfl
            have g1 := hf 1 f1 rfl
            have g2 := hf 2 f2 rfl
            match xs, hxl with
            | [y0, y1, y2], _ =>
              simp only [o0, o1, o2, c0, c1, c2, List.drop_zero, List.drop_succ_cons, List.take_succ_cons, List.take_zero, List.getElem?_cons_zero, List.getElem?_cons_succ] at g0 g1 g2
              obtain ⟨k, e0, _⟩ := DataW.trod_int h0 g0
              obtain ⟨u, e1, _⟩ := DataW.trod_int h1 g1
              rw [h2] at g2
              obtain ⟨ks, hks⟩ := ih m (by omega) v2 y2 g2
              simp at e0 e1
              subst e0; subst e1
              exact ⟨(k, u, v2, ks), hcell 0 (by omega), hcell 1 (by omega), hcell 2 (by omega), hks⟩
        obtain ⟨f, hf⟩ := Go.Deep.choose_lt (α := Int × Int × Value × List Ex) each
        refine ⟨(List.range len).map fun i => .node (f i).1 (f i).2.1 (f i).2.2.2, ?_⟩
        have hlen : ((List.range len).map fun i => Ex.node (f i).1 (f i).2.1 (f i).2.2.2).length = len := by simp
        have := KidsR.cons (w := w) (lo := 0) (hi := w.heap.size) b o cap ((List.range len).map fun i => Ex.node (f i).1 (f i).2.1 (f i).2.2.2) (fun i => (f i).2.2.1) (by omega) (Nat.zero_le _) hb (by omega) (by unfold maxLen at hm; omega)
          (fun i hlt => by simp only [List.getElem_map, List.getElem_range]; exact (hf i (by omega)).1)
          (fun i hlt => by simp only [List.getElem_map, List.getElem_range]; exact (hf i (by omega)).2.1)
          (fun i hlt => (hf i (by omega)).2.2.1)
          (fun i hlt => by simp only [List.getElem_map, List.getElem_range]; exact (hf i (by omega)).2.2.2)
        rwa [hlen] at this
end
end Go.Proofs.YtckikiaockkmbaaDoor.Open
