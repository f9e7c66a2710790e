/- append of a whole row to a row of the call's own. Condition: the room that the model asks. -/
import Derived.Test.YtckikiaockkmbaaApp
import Derived.Test.YtckikiaockkmbaaMatO
import Derived.Laws.AppendOwnNone
import Derived.Lib.SliceRun
import Derived.WalkKit
import Derived.ProofKit
import Derived.OwnWalk
namespace Go.Proofs.Ytckikiaockkmbaa
open Go.RowKit Kit
set_option linter.unusedVariables false
section
variable {P : Program} {w : World}
theorem wpList_pushes {ops : Array Oper} {rest : List Oper} {o : Oper} {a : Act} {Q : Exit → Act → World → Prop} {α : Type} {enc : α → Nat → Value} (hgd : o.guard = none) (s x : Operand) (t : TypeId)
    (ho : o.op = .call { callee := .builtin .append, args := #[s, x], argTypes := #[t, t] })
    (base : Nat) (e : TypeId) (z : Value) (bytes : Nat) (ht : P.underlying t = some (.slice e)) (hinfo : (P.info? e).map (fun i => (i.zero, i.size, i.bytes)) = some (some z, 1, bytes)) (hzs : z.cells.size = 1)
    (v : Value) (ys : List α) (hs : a.eval s = v) (hown : OwnF 1 enc w base e v ys)
    (xv : Value) (zs : List α) {lo : Nat} {e2 : TypeId} (hx : a.eval x = xv) (hsrc : OwnF 1 enc w lo e2 xv zs) (h1 : ∀ y ∈ zs, (enc y 0).oneCell' = true)
    (hlen : (ys.length + zs.length) * bytes ≤ 140737488355328) (h63 : ys.length + zs.length ≤ 9223372036854775807) (hbase : base ≤ w.heap.size)
    (h : ∀ v' w', OwnF 1 enc w' base e v' (ys ++ zs) → Kp (fun k => v.ownBlock = some k) w w' → wpList P ops Q rest (a.put o.dst v') w') : wpList P ops Q (o :: rest) a w := by
  obtain ⟨i, hi, hz0, hz1, hz2⟩ := info_parts hinfo
  obtain ⟨cells, ho1, hc⟩ := id hown
  rcases hsrc.form with ⟨rfl, rfl⟩ | ⟨b, cap, cs, rfl, hb, hlc, hcm, hh, hcs, hcc⟩
  · exact wpList_append_own_none hgd s x t ho base e i 1 ht hi v ys.length cells hs ho1 hx (h v w (by rw [List.append_nil]; exact hown) (Kp.refl _ _))
  · refine wpList_append_own w hgd s x t ho base e i z 1 bytes ht hi hz0 hz1 hz2 hzs (by omega) v ys.length cells hs ho1 ⟨b, 0, none⟩ zs.length cap (zs.map fun y => enc y 0) hx (by simp) ?_ ?_ (by unfold maxLen; omega) hlen hbase ?_
    · intro j u hu
      rw [List.getElem?_map] at hu
      by_cases hj : j < zs.length
      · rw [List.getElem?_eq_getElem hj] at hu
        simp at hu
        subst hu
        have := hcc j hj 0 (by omega)
        rw [Nat.mul_one, Nat.add_zero] at this
        rw [Go.WideShapes.add_plain, Nat.zero_add]; exact (Kit.cell_of_heap hh j).trans this
      · rw [List.getElem?_eq_none (by omega)] at hu; simp at hu
    · intro u hu
      obtain ⟨y, hy, rfl⟩ := List.mem_map.1 hu
      exact h1 y hy
    · intro v' w' h2 h3 _
      refine h v' w' (OwnF.of_app (zs := zs) h2 ho1.1 hc ?_) ⟨h3.os, h3.tape, h3.output, h3.size, fun k hk hs => h3.block k hk (fun e => hs e.symm)⟩
      intro i hi t ht
      obtain rfl : t = 0 := by omega
      rw [Nat.mul_one, Nat.add_zero, List.getElem?_map, List.getElem?_eq_getElem hi]; rfl
end
namespace AppM
set_option maxHeartbeats 1000000 in
set_option maxRecDepth 100000 in
theorem cloneI (w : World) (lo : Nat) {e2 : TypeId} (s : Value) (xs : List Int) (hs : OwnF 1 encI w lo e2 s xs) (hm : xs.length ≤ 1099511627776) :
    Calls Try.prog 87 #[s] w fun e w' => ∃ v, e = .returned v ∧ New w w' ∧ OwnF 1 encI w' w.heap.size 3 v xs := by
  have hO := Lib.hid hs
  have q22 : ∀ (w : World) (a : Option Addr) (n c n' c' : Nat), (binOp .eql 34 (.slice a n c) (.slice none n' c')).run Try.prog w = .ok (.bool a.isNone) w := fun w a n c n' c' => Lib.run_eql_slice_nil w _ _ a n c n' c' Try.underlying34
  rcases hs.form with ⟨rfl, rfl⟩ | ⟨b, cap, cs, rfl, hb, hlc, hcm, hh, hcs, hcc⟩
  · clear hs hO
    go_enter Try.func87, Try.ntmps87
    go_wp2
    go_ret
    exact ⟨_, rfl, Kp.refl _ _, OwnF.nil _ _ _⟩
  · clear hs hh hcs hcc
    go_enter Try.func87, Try.ntmps87
    go_wp2_with (at_builtin; refine wpList_pushes rfl _ _ _ rfl w.heap.size 3 _ _ Try.underlying34 LawF.infoI rfl _ [] rfl (OwnF.empty w 3 (Nat.le_refl _)) _ xs rfl (hO.out.kp ((Kp.refl (fun _ => False) w).alloc _) (fun _ _ f => f)) (fun y _ => rfl) ?qc1 ?qc2 ?qc3 ?_)
    case qc1 => simp; omega
    case qc2 => simp; omega
    case qc3 => simp
    intro v' w1 hv hk
    clear q22
    go_wp2
    go_ret
    exact ⟨_, rfl, New.one ((Kp.refl _ _).alloc _) (hk.mono fun k _ e => by simpa [Value.ownBlock] using e.symm) (Nat.le_refl _), by simpa using hv⟩
set_option maxHeartbeats 1000000 in
set_option maxRecDepth 100000 in
theorem cloneM (w : World) (lo : Nat) {e2 : TypeId} (s : Value) (xs : List Value) (hone : ∀ y ∈ xs, y.oneCell' = true) (hs : OwnF 1 encV w lo e2 s xs) (hm : xs.length ≤ 1073741824) :
    Calls Try.prog 143 #[s] w fun e w' => ∃ v, e = .returned v ∧ New w w' ∧ OwnF 1 encV w' w.heap.size 34 v xs := by
  have hO := Lib.hid hs
  have hone1 := Lib.hid hone
  clear hone
  have q22 : ∀ (w : World) (a : Option Addr) (n c n' c' : Nat), (binOp .eql 77 (.slice a n c) (.slice none n' c')).run Try.prog w = .ok (.bool a.isNone) w := fun w a n c n' c' => Lib.run_eql_slice_nil w _ _ a n c n' c' Try.underlying77
  rcases hs.form with ⟨rfl, rfl⟩ | ⟨b, cap, cs, rfl, hb, hlc, hcm, hh, hcs, hcc⟩
  · clear hs hO
    go_enter Try.func143, Try.ntmps143
    go_wp2
    go_ret
    exact ⟨_, rfl, Kp.refl _ _, OwnF.nil _ _ _⟩
  · clear hs hh hcs hcc
    go_enter Try.func143, Try.ntmps143
    go_wp2_with (at_builtin; refine wpList_pushes rfl _ _ _ rfl w.heap.size 34 _ _ Try.underlying77 MatF.infoM rfl _ [] rfl (OwnF.empty w 34 (Nat.le_refl _)) _ xs rfl (hO.out.kp ((Kp.refl (fun _ => False) w).alloc _) (fun _ _ f => f)) hone1.out ?qc1 ?qc2 ?qc3 ?_)
    case qc1 => simp; omega
    case qc2 => simp; omega
    case qc3 => simp
    intro v' w1 hv hk
    clear q22
    go_wp2
    go_ret
    exact ⟨_, rfl, New.one ((Kp.refl _ _).alloc _) (hk.mono fun k _ e => by simpa [Value.ownBlock] using e.symm) (Nat.le_refl _), by simpa using hv⟩
end AppM
end Go.Proofs.Ytckikiaockkmbaa
