/- append onto a row of the call's own, in the words of Flat: one element more; a list more. No program in sight. -/
import Derived.Test.YtckikiaockkmbaaDoorFlat
import Derived.WalkKit
import Derived.ProofKit
import Derived.OwnWalk
namespace Go.Proofs.YtckikiaockkmbaaDoor
open Go.RowKit Kit
set_option linter.unusedVariables false

theorem OwnF.nil {α : Type} {n : Nat} {enc : α → Nat → Value} (w : World) (base : Nat) (T : TypeId) : OwnF n enc w base T (.slice none 0 0) ([] : List α) := ⟨[], World.ownsRow_nil w base T n, fun i hi => absurd hi (Nat.not_lt_zero _)⟩

theorem OwnF.empty {α : Type} {n : Nat} {enc : α → Nat → Value} (w : World) (T : TypeId) {base : Nat} (hb : base ≤ w.heap.size) : OwnF n enc (w.alloc (.cells #[] T)) base T (.slice (some ⟨w.heap.size, 0, none⟩) 0 0) ([] : List α) :=
  ⟨[], ⟨by simp, .inr ⟨w.heap.size, 0, #[], rfl, hb, alloc_heap _ _, Nat.le_refl _, Nat.zero_le _, by simp, by simp⟩⟩, fun i hi => absurd hi (Nat.not_lt_zero _)⟩

theorem OwnF.of_app {α : Type} {n : Nat} {enc : α → Nat → Value} {w : World} {base : Nat} {T : TypeId} {v : Value} {ys zs : List α} {cells news : List Value}
    (h : w.ownsRow base T n v (ys.length + zs.length) (cells ++ news)) (hl : cells.length = ys.length * n) (hc : ∀ i (hi : i < ys.length) t, t < n → cells[i * n + t]? = some (enc ys[i] t))
    (hn : ∀ i (hi : i < zs.length) t, t < n → news[i * n + t]? = some (enc zs[i] t)) : OwnF n enc w base T v (ys ++ zs) := by
  refine ⟨cells ++ news, by rw [List.length_append]; exact h, fun i hi t ht => ?_⟩
  by_cases hlt : i < ys.length
  · have hb : i * n + t < cells.length := by
      have : (i + 1) * n ≤ ys.length * n := Nat.mul_le_mul_right _ hlt
      rw [Nat.add_mul] at this; omega
    rw [List.getElem?_append_left hb, hc i hlt t ht, List.getElem_append_left hlt]
  · have hi2 : i - ys.length < zs.length := by rw [List.length_append] at hi; omega
    have hm : ys.length * n ≤ i * n := Nat.mul_le_mul_right _ (by omega)
    rw [List.getElem?_append_right (by omega), hl, show i * n + t - ys.length * n = (i - ys.length) * n + t by rw [Nat.sub_mul]; omega, hn _ hi2 t ht, List.getElem_append_right (by omega)]

theorem newsE (w : World) (k u : Int) (T : TypeId) : ∀ t, t < 2 → (w.alloc (.cells #[.int .i64 k, .int .i64 u] T)).cell? ⟨w.heap.size, t, none⟩ = some (encE (k, u) t) := by
  intro t ht
  match t, ht with
  | 0, _ => exact World.cell?_alloc_new _ _ _ _
  | 1, _ => exact World.cell?_alloc_new _ _ _ _
theorem newsI (w : World) (k : Int) (T : TypeId) : ∀ t, t < 1 → (w.alloc (.cells #[.int .i64 k] T)).cell? ⟨w.heap.size, t, none⟩ = some (encI k t) := by
  intro t ht
  match t, ht with
  | 0, _ => exact World.cell?_alloc_new _ _ _ _
theorem newsN (w : World) (x : Ins) (T : TypeId) : ∀ t, t < 5 → (w.alloc (.cells #[.int .i64 x.op, .int .i64 x.a, .int .i64 x.b, .int .i64 x.c, .int .i64 x.d] T)).cell? ⟨w.heap.size, t, none⟩ = some (encN x t) := by
  intro t ht
  match t, ht with
  | 0, _ => exact World.cell?_alloc_new _ _ _ _
  | 1, _ => exact World.cell?_alloc_new _ _ _ _
  | 2, _ => exact World.cell?_alloc_new _ _ _ _
  | 3, _ => exact World.cell?_alloc_new _ _ _ _
  | 4, _ => exact World.cell?_alloc_new _ _ _ _
theorem newsE1 (w : World) (k u : Int) (T : TypeId) {b : Nat} (hb : w.heap.size = b) : ∀ t, t < 2 → (w.alloc (.cells #[.int .i64 k, .int .i64 u] T)).cell? ⟨b, t, none⟩ = some (encE (k, u) t) := by subst hb; exact newsE w k u T
theorem newsI1 (w : World) (k : Int) (T : TypeId) {b : Nat} (hb : w.heap.size = b) : ∀ t, t < 1 → (w.alloc (.cells #[.int .i64 k] T)).cell? ⟨b, t, none⟩ = some (encI k t) := by subst hb; exact newsI w k T
theorem newsN1 (w : World) (x : Ins) (T : TypeId) {b : Nat} (hb : w.heap.size = b) : ∀ t, t < 5 → (w.alloc (.cells #[.int .i64 x.op, .int .i64 x.a, .int .i64 x.b, .int .i64 x.c, .int .i64 x.d] T)).cell? ⟨b, t, none⟩ = some (encN x t) := by subst hb; exact newsN w x T
theorem oneE (x : Ev) : ∀ t, (encE x t).oneCell' = true := fun t => by match t with | 0 => rfl | _ + 1 => rfl
theorem oneI (x : Int) : ∀ t, (encI x t).oneCell' = true := fun _ => rfl
theorem oneN (x : Ins) : ∀ t, (encN x t).oneCell' = true := fun t => by match t with | 0 => rfl | 1 => rfl | 2 => rfl | 3 => rfl | _ + 4 => rfl
theorem size_alloc_le {w : World} {n : Nat} (h : n ≤ w.heap.size) (o : Obj) : n ≤ (w.alloc o).heap.size := by simp; omega

section
variable {P : Program} {w : World}
/-- append of one element -/
theorem wpList_push {ops : Array Oper} {rest : List Oper} {o : Oper} {a : Act} {Q : Exit → Act → World → Prop} {α : Type} {enc : α → Nat → Value} (hgd : o.guard = none) (s x : Operand) (t : TypeId)
    (ho : o.op = .call { callee := .builtin .append, args := #[s, x], argTypes := #[t, t] })
    (base : Nat) (e : TypeId) (z : Value) (size bytes : Nat) (ht : P.underlying t = some (.slice e)) (hinfo : (P.info? e).map (fun i => (i.zero, i.size, i.bytes)) = some (some z, size, bytes)) (hzs : z.cells.size = size) (hsz : 0 < size)
    (v : Value) (ys : List α) (hs : a.eval s = v) (hown : OwnF size enc w base e v ys)
    (b c : Nat) (y : α) (hx : a.eval x = .slice (some ⟨b, 0, none⟩) 1 c) (hnews : ∀ t, t < size → w.cell? ⟨b, t, none⟩ = some (enc y t)) (h1 : ∀ t, (enc y t).oneCell' = true)
    (hlen : (ys.length + 1) * bytes ≤ 140737488355328) (h63 : ys.length + 1 ≤ 9223372036854775807) (hbase : base ≤ w.heap.size)
    (h : ∀ v' w', OwnF size enc w' base e v' (ys ++ [y]) → Kp (fun k => v.ownBlock = some k) w w' → wpList P ops Q rest (a.put o.dst v') w') : wpList P ops Q (o :: rest) a w := by
  obtain ⟨i, hi, hz0, hz1, hz2⟩ := info_parts hinfo
  obtain ⟨cells, ho1, hc⟩ := hown
  refine wpList_append_own w hgd s x t ho base e i z size bytes ht hi hz0 hz1 hz2 hzs hsz v ys.length cells hs ho1 ⟨b, 0, none⟩ 1 c ((List.range size).map (enc y)) hx (by simp) ?_ ?_ (by unfold maxLen; omega) hlen hbase ?_
  · intro j u hu
    rw [List.getElem?_map] at hu
    by_cases hj : j < size
    · rw [List.getElem?_range hj] at hu
      simp at hu
      subst hu
      rw [Go.WideShapes.add_plain, Nat.zero_add]; exact hnews j hj
    · rw [List.getElem?_eq_none (by simp; omega)] at hu; simp at hu
  · intro u hu
    obtain ⟨j, _, rfl⟩ := List.mem_map.1 hu
    exact h1 j
  · intro v' w' h2 h3 _
    refine h v' w' (OwnF.of_app (zs := [y]) h2 ho1.1 hc ?_) ⟨h3.os, h3.tape, h3.output, h3.size, fun k hk hs => h3.block k hk (fun e => hs e.symm)⟩
    intro i hi t ht
    obtain rfl : i = 0 := by simpa using hi
    simp [ht]
end
end Go.Proofs.YtckikiaockkmbaaDoor
