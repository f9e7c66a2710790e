/- append of a whole row, or of one element, to a row of the call's own: at an operation, in a list, at a step of a region that draws; with the word where the new row lies. No program in sight. -/
import Derived.Test.YtckikiaockkmbaaDoorApp
import Derived.Test.YtckikiaockkmbaaDoorMatO
import Derived.Maps.AppendAt
import Derived.Laws.OwnMore
import Derived.RegionTactic
import Derived.WalkKit
import Derived.ProofKit
import Derived.OwnWalk
namespace Go.Proofs.YtckikiaockkmbaaDoor
open Go.RowKit Kit
set_option linter.unusedVariables false
def cellsOf {α : Type} (n : Nat) (enc : α → Nat → Value) (l : List α) : List Value := (List.range (l.length * n)).map fun j => match l[j / n]? with | some x => enc x (j % n) | none => .nilIface
section
variable {α : Type} {n : Nat} {enc : α → Nat → Value}
theorem cellsOf_length (l : List α) : (cellsOf n enc l).length = l.length * n := by simp [cellsOf]
theorem cellsOf_at (l : List α) (j : Nat) (hn : 0 < n) (h : j < l.length * n) : ∃ hi : j / n < l.length, (cellsOf n enc l)[j]? = some (enc l[j / n] (j % n)) := by
  have hi : j / n < l.length := Nat.div_lt_of_lt_mul (by rw [Nat.mul_comm]; exact h)
  refine ⟨hi, ?_⟩
  unfold cellsOf
  rw [List.getElem?_map, List.getElem?_range h]
  simp [List.getElem?_eq_getElem hi]
theorem cellsOf_get (l : List α) (i t : Nat) (h : i < l.length) (ht : t < n) : (cellsOf n enc l)[i * n + t]? = some (enc l[i] t) := by
  have hlt : i * n + t < l.length * n := by
    have : (i + 1) * n ≤ l.length * n := Nat.mul_le_mul_right _ h
    rw [Nat.add_mul] at this; omega
  obtain ⟨hi, e⟩ := cellsOf_at (enc := enc) l (i * n + t) (by omega) hlt
  have e1 : (i * n + t) / n = i := by rw [Nat.mul_comm, Nat.mul_add_div (by omega), Nat.div_eq_of_lt ht]; omega
  have e2 : (i * n + t) % n = t := by rw [Nat.mul_comm, Nat.mul_add_mod, Nat.mod_eq_of_lt ht]
  rw [e]; simp only [e1, e2]
variable {P : Program} {w : World}
theorem run_append_none (base : Nat) (t ty e : TypeId) (i : TypeInfo) (size : Nat) (ht : P.underlying t = some (.slice e)) (hi : P.info? e = some i)
    (v : Value) (n : Nat) (xs : List Value) (hown : w.ownsRow base e size v n xs) (cap : Nat) :
    (Builtin.append_ #[t, t] ty #[v, .slice none 0 cap]).run P w = .ok v w := by
  rcases hown.2 with ⟨rfl, rfl⟩ | ⟨g, cap', cur, rfl, _, _, hnc, _⟩
  · simp [Builtin.append_, run_underlying ht, sizeOf, typeInfo, hi, Builtin.lenOf, Builtin.firstCells]
  · simp [Builtin.append_, run_underlying ht, sizeOf, typeInfo, hi, Builtin.lenOf, Builtin.firstCells, hnc, storeCells]
theorem run_pushes (t ty : TypeId) (base : Nat) (e : TypeId) (z : Value) (bytes : Nat) (ht : P.underlying t = some (.slice e)) (hinfo : (P.info? e).map (fun i => (i.zero, i.size, i.bytes)) = some (some z, n, bytes)) (hzs : z.cells.size = n) (hn : 0 < n)
    (v : Value) (ys : List α) (hown : OwnF n enc w base e v ys) (xv : Value) (zs : List α) {lo hi : Nat} (hsrc : FlR n enc w lo hi xv zs) (h1 : ∀ y ∈ zs, ∀ t, (enc y t).oneCell' = true)
    (hlen : (ys.length + zs.length) * bytes ≤ 140737488355328) (h63 : ys.length + zs.length ≤ 9223372036854775807) (hbase : base ≤ w.heap.size) :
    ∃ v' w', (Builtin.append_ #[t, t] ty #[v, xv]).run P w = .ok v' w' ∧ OwnF n enc w' base e v' (ys ++ zs) ∧ Kp (fun k => v.ownBlock = some k) w w' ∧ (v'.ownBlock = v.ownBlock ∨ v'.ownBlock = some w.heap.size) := by
  obtain ⟨i, hi, hz0, hz1, hz2⟩ := info_parts hinfo
  obtain ⟨cells, ho1, hc⟩ := id hown
  have main : ∀ (ad : Addr) (c : Nat), (∀ j u, (cellsOf n enc zs)[j]? = some u → w.cell? (ad.add j) = some u) → ∃ v' w', (Builtin.append_ #[t, t] ty #[v, .slice (some ad) zs.length c]).run P w = .ok v' w' ∧ OwnF n enc w' base e v' (ys ++ zs) ∧ Kp (fun k => v.ownBlock = some k) w w' ∧ (v'.ownBlock = v.ownBlock ∨ v'.ownBlock = some w.heap.size) := by
    intro ad c hcl
    obtain ⟨v', w', hr, h2, h3, _, h5⟩ := run_append_own_at (P := P) w base t ty e i z n bytes ht hi hz0 hz1 hz2 hzs hn v ys.length cells ho1 ad zs.length c (cellsOf n enc zs) (cellsOf_length zs) hcl (by
      intro u hu
      obtain ⟨j, hj, rfl⟩ := List.getElem_of_mem hu
      rw [cellsOf_length] at hj
      obtain ⟨hi', e'⟩ := cellsOf_at (enc := enc) zs j hn hj
      rw [List.getElem?_eq_getElem (by rw [cellsOf_length]; exact hj)] at e'
      rw [Option.some.inj e']; exact h1 _ (List.getElem_mem _) _) (by unfold maxLen; omega) hlen hbase
    exact ⟨v', w', hr, OwnF.of_app h2 ho1.1 hc (fun i hi t ht => cellsOf_get zs i t hi ht), ⟨h3.os, h3.tape, h3.output, h3.size, fun k hk hs => h3.block k hk (fun e => hs e.symm)⟩, h5⟩
  cases hsrc with
  | nil a cap =>
    cases a with
    | none => exact ⟨v, w, run_append_none base t ty e i n ht hi v ys.length cells ho1 cap, by rw [List.append_nil]; exact hown, Kp.refl _ _, .inl rfl⟩
    | some ad => exact main ad cap (by intro j u hu; simp [cellsOf] at hu)
  | cons b o cap zs h0 hlo hhi hcap hmax c =>
    refine main ⟨b, o, none⟩ cap fun j u hu => ?_
    by_cases hj : j < zs.length * n
    · obtain ⟨hi', e'⟩ := cellsOf_at (enc := enc) zs j hn hj
      rw [e'] at hu
      cases hu
      have := c (j / n) hi' (j % n) (Nat.mod_lt _ hn)
      rw [Go.WideShapes.add_plain]
      rw [show o + j = o + j / n * n + j % n by rw [Nat.add_assoc, Nat.div_add_mod' j n]]
      exact this
    · rw [List.getElem?_eq_none (by rw [cellsOf_length]; omega)] at hu; cases hu
/-- at an operation -/
theorem wp_pushes {o : Oper} {a : Act} {K : Act → World → Prop} {Q : Exit → Act → World → Prop} (s x : Operand) (t : TypeId)
    (ho : o.op = .call { callee := .builtin .append, args := #[s, x], argTypes := #[t, t] })
    (base : Nat) (e : TypeId) (z : Value) (bytes : Nat) (ht : P.underlying t = some (.slice e)) (hinfo : (P.info? e).map (fun i => (i.zero, i.size, i.bytes)) = some (some z, n, bytes)) (hzs : z.cells.size = n) (hn : 0 < n)
    (v : Value) (ys : List α) (hs : a.eval s = v) (hown : OwnF n enc w base e v ys) (xv : Value) (zs : List α) {lo hi : Nat} (hx : a.eval x = xv) (hsrc : FlR n enc w lo hi xv zs) (h1 : ∀ y ∈ zs, ∀ t, (enc y t).oneCell' = true)
    (hlen : (ys.length + zs.length) * bytes ≤ 140737488355328) (h63 : ys.length + zs.length ≤ 9223372036854775807) (hbase : base ≤ w.heap.size)
    (h : ∀ v' w', OwnF n enc w' base e v' (ys ++ zs) → Kp (fun k => v.ownBlock = some k) w w' → (v'.ownBlock = v.ownBlock ∨ v'.ownBlock = some w.heap.size) → K (a.put o.dst v') w') : o.wp P a w K Q := by
  obtain ⟨v', w', hr, h2, h3, h4⟩ := run_pushes (P := P) t o.type base e z bytes ht hinfo hzs hn v ys hown xv zs hsrc h1 hlen h63 hbase
  unfold Oper.wp execOp
  simp only [ho, resolve, invoke, builtin, Sem.run_bind, Sem.run_pure, Result.andThen_ok, List.map_toArray, List.map_cons, List.map_nil, hs, hx, hr]
  exact h v' w' h2 h3 h4
/-- in a list -/
theorem wpList_pushesN {ops : Array Oper} {rest : List Oper} {o : Oper} {a : Act} {Q : Exit → Act → World → Prop} (hgd : o.guard = none) (s x : Operand) (t : TypeId)
    (ho : o.op = .call { callee := .builtin .append, args := #[s, x], argTypes := #[t, t] })
    (base : Nat) (e : TypeId) (z : Value) (bytes : Nat) (ht : P.underlying t = some (.slice e)) (hinfo : (P.info? e).map (fun i => (i.zero, i.size, i.bytes)) = some (some z, n, bytes)) (hzs : z.cells.size = n) (hn : 0 < n)
    (v : Value) (ys : List α) (hs : a.eval s = v) (hown : OwnF n enc w base e v ys) (xv : Value) (zs : List α) {lo hi : Nat} (hx : a.eval x = xv) (hsrc : FlR n enc w lo hi xv zs) (h1 : ∀ y ∈ zs, ∀ t, (enc y t).oneCell' = true)
    (hlen : (ys.length + zs.length) * bytes ≤ 140737488355328) (h63 : ys.length + zs.length ≤ 9223372036854775807) (hbase : base ≤ w.heap.size)
    (h : ∀ v' w', OwnF n enc w' base e v' (ys ++ zs) → Kp (fun k => v.ownBlock = some k) w w' → (v'.ownBlock = v.ownBlock ∨ v'.ownBlock = some w.heap.size) → wpList P ops Q rest (a.put o.dst v') w') : wpList P ops Q (o :: rest) a w :=
  wpList_plain hgd fun _ hK => wp_pushes s x t ho base e z bytes ht hinfo hzs hn v ys hs hown xv zs hx hsrc h1 hlen h63 hbase fun v' w' h2 h3 h4 => hK _ _ (h v' w' h2 h3 h4)
/-- at a step of a region that draws -/
theorem step_pushes {ops : Array Oper} {o : Oper} {a : Act} {K : Act → World → Prop} {Q : Exit → Act → World → Prop} {E : Prop} (hgd : o.guard = none) (s x : Operand) (t : TypeId)
    (ho : o.op = .call { callee := .builtin .append, args := #[s, x], argTypes := #[t, t] })
    (base : Nat) (e : TypeId) (z : Value) (bytes : Nat) (ht : P.underlying t = some (.slice e)) (hinfo : (P.info? e).map (fun i => (i.zero, i.size, i.bytes)) = some (some z, n, bytes)) (hzs : z.cells.size = n) (hn : 0 < n)
    (v : Value) (ys : List α) (hs : a.eval s = v) (hown : OwnF n enc w base e v ys) (xv : Value) (zs : List α) {lo hi : Nat} (hx : a.eval x = xv) (hsrc : FlR n enc w lo hi xv zs) (h1 : ∀ y ∈ zs, ∀ t, (enc y t).oneCell' = true)
    (hlen : (ys.length + zs.length) * bytes ≤ 140737488355328) (h63 : ys.length + zs.length ≤ 9223372036854775807) (hbase : base ≤ w.heap.size)
    (h : ∀ v' w', OwnF n enc w' base e v' (ys ++ zs) → Kp (fun k => v.ownBlock = some k) w w' → (v'.ownBlock = v.ownBlock ∨ v'.ownBlock = some w.heap.size) → K (a.put o.dst v') w') :
    if Region.wanted o (yielded ops a.tmps) = true then Oper.wp P o a w K Q else E := by
  have hw : Region.wanted o (yielded ops a.tmps) = true := by simp [Region.wanted, hgd]
  rw [if_pos hw]
  exact wp_pushes s x t ho base e z bytes ht hinfo hzs hn v ys hs hown xv zs hx hsrc h1 hlen h63 hbase h
/-- a block just laid is read as a row of one element -/
theorem FlR.one {b : Nat} {y : α} (hc : ∀ t, t < n → w.cell? ⟨b, t, none⟩ = some (enc y t)) : FlR n enc w b (b + 1) (.slice (some ⟨b, 0, none⟩) 1 1) [y] := by
  refine .cons b 0 1 [y] (by simp) (Nat.le_refl _) (by omega) (by simp) (by omega) fun i hi t ht => ?_
  obtain rfl : i = 0 := by simpa using hi
  simpa using hc t ht
end
/-- a matrix of the call's own, one row more: the row is new, then the row of slices is appended to -/
theorem MatO.grow {w : World} {lo : Nat} {TO T : TypeId} {v : Value} {l : List (List Int)} {hi : Nat} (h : MatO w lo hi TO T v l) (hlo : lo ≤ w.heap.size) :
    ∃ vs, OwnF 1 encV w lo TO v vs ∧ vs.length = l.length ∧ ∀ (w1 w2 : World) (v' r : Value) (x : List Int), New w w1 → OwnF 1 encI w1 w.heap.size T r x → Kp (fun k => v.ownBlock = some k) w1 w2 →
      (v'.ownBlock = v.ownBlock ∨ v'.ownBlock = some w1.heap.size) → OwnF 1 encV w2 lo TO v' (vs ++ [r]) → MatO w2 lo w2.heap.size TO T v' (l ++ [x]) := by
  obtain ⟨vs, h1, h2, h3, h4⟩ := h
  refine ⟨vs, h1.own, h2.len, fun w1 w2 v' r x k1 hr k2 hat hv' => ?_⟩
  have h2' := h2.snoc k1 hlo hr
  have hvb : ∀ b, v.ownBlock = some b → lo ≤ b ∧ b < w.heap.size := fun b hb => h1.own.lt b hb
  have hrb : ∀ b, r.ownBlock = some b → w.heap.size ≤ b ∧ b < w1.heap.size := fun b hb => hr.lt b hb
  refine MatO.of (vs ++ [r]) hv' (h2'.kp k2 ?_) ?_
  · intro y hy b hb hs
    rcases List.mem_append.1 hy with q | q
    · exact h4 y q b hs hb
    · rw [List.mem_singleton] at q
      subst q
      have := hvb b hs; have := hrb b hb; omega
  · intro y hy b hb hyb
    rcases hat with e | e
    · rw [e] at hb
      rcases List.mem_append.1 hy with q | q
      · exact h4 y q b hb hyb
      · rw [List.mem_singleton] at q
        subst q
        have := hvb b hb; have := hrb b hyb; omega
    · rw [e] at hb
      cases hb
      rcases List.mem_append.1 hy with q | q
      · obtain ⟨xs, ho⟩ := h2.mem q
        have := (ho.lt _ hyb).2; have := k1.size; omega
      · rw [List.mem_singleton] at q
        subst q
        have := hrb _ hyb; omega
theorem MatO.nil (w : World) (lo hi : Nat) (TO T : TypeId) : MatO w lo hi TO T (.slice none 0 0) [] :=
  ⟨[], ⟨OwnF.nil _ _ _, fun b hb => by simp [Value.ownBlock] at hb⟩, RowsO.nil _ _ _, fun x hx => by simp at hx, fun x hx => by simp at hx⟩
end Go.Proofs.YtckikiaockkmbaaDoor
