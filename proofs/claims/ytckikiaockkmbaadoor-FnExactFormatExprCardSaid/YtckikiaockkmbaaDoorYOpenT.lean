/- Arguments of the laws' own struct types opened: expressions, statements, programs, memories, code, machines. No conditions. -/
import Derived.Test.YtckikiaockkmbaaDoorYOpen
import Derived.Test.YtckikiaockkmbaaDoorYP2
import Derived.Test.YtckikiaockkmbaaDoorChecked
import Derived.Lib.SmallJoins
import Derived.Deep.Fields
namespace Go.Proofs.YtckikiaockkmbaaDoor.Open
open Go.RowKit Kit Go.ChangeShapes Go.WideShapes
set_option linter.unusedVariables false
section
variable {H : Type} {enc : TypeId × Value → H} {P : Program} {w : World} {sp : Nat → Bool} {hd : Bool}

/-- one statement's cells -/
instance : Inhabited St := ⟨.node 0 0 (.node 0 0 []) (.node 0 0 []) 0 [] []⟩

theorem exCells {e : Nat} {g0 g1 g2 : Field} (he : P.underlying e = some (.struct #[g0, g1, g2])) (h0 : P.underlying g0.type = some (.int .i64)) (h1 : P.underlying g1.type = some (.int .i64))
    (o0 : g0.offset = 0) (o1 : g1.offset = 1) (o2 : g2.offset = 2) (c0 : P.cellsOf g0.type = 1) (c1 : P.cellsOf g1.type = 1) (c2 : P.cellsOf g2.type = 1)
    (K : ∀ (fuel : Nat) (v : Value) (x : DataW H × List MemPlace), DataW.trod enc P w 0 sp hd fuel g2.type [v] = some x → ∃ ks, KidsR w 0 w.heap.size v ks)
    {fuel : Nat} {a b c : Value} {y : DataW H × List MemPlace} (h : DataW.trod enc P w 0 sp hd fuel e [a, b, c] = some y) : ∃ k u ks, a = .int .i64 k ∧ b = .int .i64 u ∧ KidsR w 0 w.heap.size c ks := by
  obtain ⟨xs, m, _, _, _, hxl, hf⟩ := DataW.trod_struct he h
  have q0 := hf 0 g0 rfl
  have q1 := hf 1 g1 rfl
  have q2 := hf 2 g2 rfl
  match xs, hxl with
  | [y0, y1, y2], _ =>
    simp only [o0, o1, o2, c0, c1, c2, List.drop_zero, List.drop_succ_cons, List.take_succ_cons, List.take_zero, List.getElem?_cons_zero, List.getElem?_cons_succ] at q0 q1 q2
    obtain ⟨k, e0, _⟩ := DataW.trod_int h0 q0
    obtain ⟨u, e1, _⟩ := DataW.trod_int h1 q1
    obtain ⟨ks, hks⟩ := K _ _ _ q2
    simp at e0 e1
    exact ⟨k, u, ks, e0, e1, hks⟩

/-- a slice of statements -/
theorem sts {t e te : Nat} {f0 f1 f2 f3 f4 f5 f6 : Field} (ht : P.underlying t = some (.slice e)) (he : P.underlying e = some (.struct #[f0, f1, f2, f3, f4, f5, f6])) (hC : P.cellsOf e = 11)
    (h0 : P.underlying f0.type = some (.int .i64)) (h1 : P.underlying f1.type = some (.int .i64)) (h4 : P.underlying f4.type = some (.int .i64)) (h2 : f2.type = te) (h3 : f3.type = te) (h5 : f5.type = t) (h6 : f6.type = t)
    (o0 : f0.offset = 0) (o1 : f1.offset = 1) (o2 : f2.offset = 2) (o3 : f3.offset = 5) (o4 : f4.offset = 8) (o5 : f5.offset = 9) (o6 : f6.offset = 10)
    (c0 : P.cellsOf f0.type = 1) (c1 : P.cellsOf f1.type = 1) (c2 : P.cellsOf f2.type = 3) (c3 : P.cellsOf f3.type = 3) (c4 : P.cellsOf f4.type = 1) (c5 : P.cellsOf f5.type = 1) (c6 : P.cellsOf f6.type = 1)
    (E : ∀ (fuel : Nat) (a b c : Value) (y : DataW H × List MemPlace), DataW.trod enc P w 0 sp hd fuel te [a, b, c] = some y → ∃ k u ks, a = .int .i64 k ∧ b = .int .i64 u ∧ KidsR w 0 w.heap.size c ks) :
    ∀ (fuel : Nat) (v : Value) (x : DataW H × List MemPlace), DataW.trod enc P w 0 sp hd fuel t [v] = some x → ∃ l, StsR w 0 w.heap.size v l := by
  intro fuel
  induction fuel using Nat.strongRecOn with
  | _ fuel ih =>
    intro v x h
    obtain ⟨a, len, cap, n, rfl, hl0 | ⟨b, o, rfl, hb, hl, hm, hn, hi⟩⟩ := sl ht hC (by omega) h
    · subst hl0; exact ⟨[], .nil _ _⟩
    · by_cases hl0 : len = 0
      · subst hl0; exact ⟨[], .nil _ _⟩
      · have each : ∀ i, i < len → ∃ z : St × Value × Value × Value × Value, StsR.At w 0 w.heap.size b (o + i * 11) z.1 z.2.1 z.2.2.1 z.2.2.2.1 z.2.2.2.2 := by
          intro i hlt
          obtain ⟨cs, y, hc, hcell, hy⟩ := hi i hlt
          obtain ⟨xs, m, hnm, _, _, hxl, hf⟩ := DataW.trod_struct he hy
          match cs, hc with
          | [v0, v1, v2, v3, v4, v5, v6, v7, v8, v9, v10], _ =>
            have g0 := hf 0 f0 rfl
            have g1 := hf 1 f1 rfl
            have g2 := hf 2 f2 rfl
            have g3 := hf 3 f3 rfl
            have g4 := hf 4 f4 rfl
            have g5 := hf 5 f5 rfl
            have g6 := hf 6 f6 rfl
            match xs, hxl with
            | [y0, y1, y2, y3, y4, y5, y6], _ =>
              simp only [o0, o1, o2, o3, o4, o5, o6, c0, c1, c2, c3, c4, c5, c6, List.drop_zero, List.drop_succ_cons, List.take_succ_cons, List.take_zero, List.getElem?_cons_zero, List.getElem?_cons_succ] at g0 g1 g2 g3 g4 g5 g6
              obtain ⟨k, e0, _⟩ := DataW.trod_int h0 g0
              obtain ⟨tg, e1, _⟩ := DataW.trod_int h1 g1
              obtain ⟨ct, e4, _⟩ := DataW.trod_int h4 g4
              rw [h2] at g2; rw [h3] at g3; rw [h5] at g5; rw [h6] at g6
              obtain ⟨ik, iv, iks, rfl, rfl, hI⟩ := E _ _ _ _ _ g2
              obtain ⟨vk, vv, vks, rfl, rfl, hV⟩ := E _ _ _ _ _ g3
              obtain ⟨bd, hB⟩ := ih m (by omega) v9 y5 g5
              obtain ⟨el, hE⟩ := ih m (by omega) v10 y6 g6
              simp at e0 e1 e4
              subst e0; subst e1; subst e4
              exact ⟨(.node k tg (.node ik iv iks) (.node vk vv vks) ct bd el, v4, v7, v9, v10), ⟨Nat.zero_le _, hb, hcell 0 (by omega), hcell 1 (by omega), hcell 2 (by omega), hcell 3 (by omega), hcell 4 (by omega), hcell 5 (by omega), hcell 6 (by omega), hcell 7 (by omega), hcell 8 (by omega), hcell 9 (by omega), hcell 10 (by omega), hI, hV, hB, hE⟩⟩
        obtain ⟨f, hf⟩ := Go.Deep.choose_lt (α := St × Value × Value × Value × Value) each
        refine ⟨(List.range len).map fun i => (f i).1, ?_⟩
        have hlen : ((List.range len).map fun i => (f i).1).length = len := by simp
        have hg : ∀ i (h : i < ((List.range len).map fun i => (f i).1).length), ((List.range len).map fun i => (f i).1)[i] = (f i).1 := fun i h => by simp
        have := StsR.cons (w := w) (lo := 0) (hi := w.heap.size) b o cap ((List.range len).map fun i => (f i).1) (fun i => (f i).2.1) (fun i => (f i).2.2.1) (fun i => (f i).2.2.2.1) (fun i => (f i).2.2.2.2) (by omega) (Nat.zero_le _) hb (by omega) (by unfold maxLen at hm; omega)
          (fun i h => by rw [hg]; exact (hf i (by omega)).c0) (fun i h => by rw [hg]; exact (hf i (by omega)).c1) (fun i h => by rw [hg]; exact (hf i (by omega)).c2) (fun i h => by rw [hg]; exact (hf i (by omega)).c3)
          (fun i h => (hf i (by omega)).c4) (fun i h => by rw [hg]; exact (hf i (by omega)).c5) (fun i h => by rw [hg]; exact (hf i (by omega)).c6) (fun i h => (hf i (by omega)).c7) (fun i h => by rw [hg]; exact (hf i (by omega)).c8)
          (fun i h => (hf i (by omega)).c9) (fun i h => (hf i (by omega)).c10) (fun i h => by rw [hg]; exact (hf i (by omega)).ri) (fun i h => by rw [hg]; exact (hf i (by omega)).rv) (fun i h => by rw [hg]; exact (hf i (by omega)).rb) (fun i h => by rw [hg]; exact (hf i (by omega)).re)
        rwa [hlen] at this

end

section
variable {H : Type} {enc : TypeId × Value → H} {w : World} {r : Reach} {b0 : Nat} {v : Value} {d : DataW H} {p : List MemPlace}
theorem kidsL : ∀ (fuel : Nat) (v : Value) (x : DataW H × List MemPlace), DataW.trod enc Tryd.prog w 0 (fun _ => true) true fuel 33 [v] = some x → ∃ ks, KidsR w 0 w.heap.size v ks :=
  kids Tryd.underlying33 Tryd.underlying35 (by kernel_rfl) Tryd.underlying3 Tryd.underlying3 rfl rfl rfl rfl (by kernel_rfl) (by kernel_rfl) (by kernel_rfl)
set_option maxRecDepth 100000 in
theorem exprL (hv : Value.okWide Tryd.prog w r b0 35 v) (h : DataW.Trod enc Tryd.prog w 0 (fun _ => true) true 35 v d p) : ∃ k u s ks, v = .agg #[.int .i64 k, .int .i64 u, s] ∧ KidsR w 0 w.heap.size s ks := by
  obtain ⟨v0, v1, v2, y0, y1, y2, n, rfl, _, _, q0, q1, q2⟩ := Joins.open_agg3 Tryd.underlying35 (by kernel_rfl) (by kernel_rfl) hv h
  obtain ⟨k, e0, _⟩ := DataW.trod_int Tryd.underlying3 q0
  obtain ⟨u, e1, _⟩ := DataW.trod_int Tryd.underlying3 q1
  obtain ⟨ks, hks⟩ := kidsL _ _ _ q2
  simp at e0 e1; subst e0; subst e1
  exact ⟨k, u, v2, ks, rfl, hks⟩
theorem stsL : ∀ (fuel : Nat) (v : Value) (x : DataW H × List MemPlace), DataW.trod enc Tryd.prog w 0 (fun _ => true) true fuel 30 [v] = some x → ∃ l, StsR w 0 w.heap.size v l :=
  sts Tryd.underlying30 Tryd.underlying89 (by kernel_rfl) Tryd.underlying3 Tryd.underlying3 Tryd.underlying3 rfl rfl rfl rfl rfl rfl rfl rfl rfl rfl rfl (by kernel_rfl) (by kernel_rfl) (by kernel_rfl) (by kernel_rfl) (by kernel_rfl) (by kernel_rfl) (by kernel_rfl)
    (fun fuel a b c y h => exCells Tryd.underlying35 Tryd.underlying3 Tryd.underlying3 rfl rfl rfl (by kernel_rfl) (by kernel_rfl) (by kernel_rfl) kidsL h)
set_option maxRecDepth 100000 in
theorem programL (hv : Value.okWide Tryd.prog w r b0 32 v) (h : DataW.Trod enc Tryd.prog w 0 (fun _ => true) true 32 v d p) :
    ∃ s1 s2 s3 xs ys l, v = .agg #[s1, s2, s3] ∧ IntsR w 0 w.heap.size s1 xs ∧ IntsR w 0 w.heap.size s2 ys ∧ StsR w 0 w.heap.size s3 l := by
  obtain ⟨v0, v1, v2, y0, y1, y2, n, rfl, _, _, q0, q1, q2⟩ := Joins.open_agg3 Tryd.underlying32 (by kernel_rfl) (by kernel_rfl) hv h
  obtain ⟨xs, h0⟩ := ints Tryd.underlying29 Tryd.underlying3 (by kernel_rfl) q0
  obtain ⟨ys, h1⟩ := ints Tryd.underlying29 Tryd.underlying3 (by kernel_rfl) q1
  obtain ⟨l, h2⟩ := stsL _ _ _ q2
  exact ⟨v0, v1, v2, xs, ys, l, rfl, h0, h1, h2⟩
end
end Go.Proofs.YtckikiaockkmbaaDoor.Open
