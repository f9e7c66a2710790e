/- Evaluation of expressions by impl: the events that are recorded, the recursion over operands. Conditions: the expression is valid, the memory fits, bounds on lengths. -/
import Derived.Test.YtbicpkmlionldaaEEvP
import Derived.Test.YtbicpkmlionldaaEOwnT
import Derived.Test.YtbicpkmlionldaaEP2
import Derived.StillTailTactics
import Derived.Great.Walk
import Derived.BigQuiet
import Derived.Deep.QuietTactic
namespace Go.Proofs.Ytbicpkmlionldaa
open Go.RowKit Kit
theorem FlR.ev {w : World} {b : Nat} {k u : Int} {T : TypeId} {f : Nat × Nat} (h : w.heap[b]? = some (.cells #[.int .i64 k, .int .i64 u] T f)) : FlR 2 encE w b (b + 1) (.slice (some ⟨b, 0, none⟩) 1 1) [(k, u)] := FlR.one fun t ht => match t, ht with | 0, _ => cell_of_heap h 0 | 1, _ => cell_of_heap h 1
theorem FlR.i1 {w : World} {b : Nat} {u : Int} {T : TypeId} {f : Nat × Nat} (h : w.heap[b]? = some (.cells #[.int .i64 u] T f)) : FlR 1 encI w b (b + 1) (.slice (some ⟨b, 0, none⟩) 1 1) [u] := FlR.one fun t ht => match t, ht with | 0, _ => cell_of_heap h 0
namespace EvI
open Val Step EvP
set_option linter.unusedVariables false
theorem infoE : (Try.prog.info? 68).map (fun i => (i.zero, i.size, i.bytes)) = some (some (.agg #[.int .i64 0, .int .i64 0]), 2, 16) := by kernel_rfl
theorem oneE (e : Ev) : ∀ t, (encE e t).oneCell' = true := fun t => match t with | 0 => rfl | _ + 1 => rfl
/-- what the record is behind a call -/
def Recd (w : World) (b base : Nat) (va vb ev : Value) (P : Value → Prop) (l : List Ev) (e : Ending) (w' : World) : Prop := ∃ r ev', e = .returned r ∧ P r ∧ Kp (fun c => c = b ∨ ev.ownBlock = some c) w w' ∧ w'.heap[b]? = some (.cells #[va, vb, ev'] 87 (0, 0)) ∧ OwnF 2 encE w' base 68 ev' l ∧ Grew w ev ev'
set_option maxHeartbeats 2000000 in
theorem event (w : World) (b base : Nat) (va vb ev : Value) (k u : Int) (l : List Ev) (hb : w.heap[b]? = some (.cells #[va, vb, ev] 87 (0, 0))) (hv : OwnF 2 encE w base 68 ev l) (hl : l.length ≤ 4194304) (hbase : base ≤ w.heap.size) :
    Calls Try.prog 77 #[.pointer (some ⟨b, 0, none⟩), .int .i64 k, .int .i64 u] w (Recd w b base va vb ev (fun r => r = .tuple #[]) (l ++ [(k, u)])) := by
  have hne := Lib.hid (OwnF.box hv hb (by decide))
  obtain ⟨a3, d3, rfl, _⟩ := hv.reads.len
  have kA : New w (w.alloc (.cells #[.int .i64 k, .int .i64 u] 68)) := (Kp.refl _ _).alloc _
  have hx := Lib.hid (FlR.ev (alloc_heap w (.cells #[.int .i64 k, .int .i64 u] 68)))
  have hvA := Lib.hid (hv.new kA)
  have hbA := heap_new kA hb
  have bl := heap_lt hb
  have c2 := cell_of_heap hb 2
  clear hv
  go_enter Try.func77, Try.ntmps77
  go_wp2_with (at_builtin; refine wpList_pushesN rfl _ _ 32 rfl base 68 _ 16 Try.underlying32 infoE rfl (by decide) _ l rfl hvA.out _ [(k, u)] rfl hx.out (fun q _ => oneE q) ?ca ?cb ?cc ?_)
  case ca => simp; omega
  case cb => simp; omega
  case cc => simp; omega
  intro v1 w1 hv1 hk1 ha1
  have hb1 := (hk1.block _ (by simp; omega) hne.out).trans hbA
  have K1 : Kp (fun c => (Value.slice a3 l.length d3).ownBlock = some c) w w1 := (kA.mono fun _ _ f => f.elim).trans hk1
  have g1 : Grew w (.slice a3 l.length d3) v1 := fun c hc => by
    rcases ha1 with h | h
    · exact .inl (h ▸ hc)
    · rw [h] at hc; simp at hc; exact .inr (by omega)
  clear c2 hbA ha1
  have c2 := cell_of_heap hb1 2
  have cf := frozen_of_heap hb1
  have hne1 := Lib.hid (OwnF.box hv1 hb1 (by decide))
  have hv2 := Lib.hid hv1
  obtain ⟨a4, d4, e3, _⟩ := hv1.reads.len
  rw [List.length_append] at e3
  subst e3
  clear hv1 hvA hx hk1 kA hb
  go_wp2
  have kk : Kp (fun k => k = b) w1 (w1.setCell ⟨b, 2, none⟩ (.slice a4 (l.length + [(k, u)].length) d4)) := (Kp.refl (fun k => k = b) w1).setCell (.inl rfl) _
  refine Go.Great.bodyPost_end0 rfl rfl ⟨_, _, rfl, rfl, (K1.mono fun _ _ e => .inr e).trans (kk.mono fun _ _ e => .inl e), setCell_heap (o := 2) hb1 _, hv2.out.kp kk fun c e1 e2 => ?_, g1⟩
  subst e2
  exact hne1.out e1
end EvI
end Go.Proofs.Ytbicpkmlionldaa
