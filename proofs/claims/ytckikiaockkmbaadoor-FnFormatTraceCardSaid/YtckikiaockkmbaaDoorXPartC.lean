/- PublicPart and TrustedPart of impl and of spec: what is cleared. Conditions: the lists fit, labels are valid; bounds on lengths; (spec) at most 2^20 nodes. -/
import Derived.Test.YtckikiaockkmbaaDoorXPartP
import Derived.Test.YtckikiaockkmbaaDoorXDrawM
import Derived.Test.YtckikiaockkmbaaDoorXP5
import Derived.Test.YtckikiaockkmbaaDoorXP4
import Derived.Lib.SliceRun
import Derived.Deep.DeepCutAuto
import Derived.Test.YtckikiaockkmbaaDoorXP1
namespace Go.Proofs.YtckikiaockkmbaaDoor.PartC
open Go.RowKit Kit Val MarkC PartP
set_option linter.unusedVariables false
theorem four : ∀ (l : List Int), l.length = 4 → ((((l.set 0 0).set 1 0).set 2 0).set 3 0) = List.replicate l.length 0
  | [_, _, _, _], _ => rfl
/-- one row of a memory -/
theorem rows {w : World} {lo hi n d : Nat} {a : Option Addr} {va : Value} {ya : List Int} {yb : List (List Int)} (h : MemO w lo hi va (.slice a n d) ya yb) (k : Nat) (hk : k < yb.length) (h4 : yb[k].length = 4) :
    ∃ b c d2, a = some ⟨b, 0, none⟩ ∧ lo ≤ b ∧ b < hi ∧ w.cell? ⟨b, k, none⟩ = some (.slice (some ⟨c, 0, none⟩) 4 d2) ∧ lo ≤ c ∧ c < hi ∧ (∀ i (h : i < yb[k].length), w.cell? ⟨c, i, none⟩ = some (.int .i64 yb[k][i])) ∧ (∀ i, w.frozen? ⟨c, i, none⟩ = false) ∧
      (∀ j (hj : j < yb[k].length) z, MemO (w.setCell ⟨c, j, none⟩ (.int .i64 z)) lo hi va (.slice a n d) ya (yb.set k (yb[k].set j z))) ∧
      MemO (w.setCells c 0 (List.replicate 4 (.int .i64 0))) lo hi va (.slice a n d) ya (yb.set k (List.replicate yb[k].length 0)) := by
  obtain ⟨m1, m2, m3, m4, r1, r2, r3, r4, r5, B, C⟩ := h
  obtain ⟨b, s, rfl, hb1, hb2, hcell, hO, hne, hset⟩ := C.row k hk
  rcases hO.form with ⟨e, _⟩ | ⟨c, cap, cs, rfl, hc1, _, _, hh, hn, hc⟩
  · rw [e] at h4; cases h4
  · have hcc := hne c (ownBlock_at _ _ _)
    obtain ⟨_, c', e', hcs, hf⟩ := own_cells hO (by omega)
    cases e'
    have kk : ∀ (w1 : World) (j : Nat) (z : Int), Kp (fun x => x = c) w w1 → Kp (fun x => x = c) w (w1.setCell ⟨c, j, none⟩ (.int .i64 z)) := fun w1 j z k1 => k1.setCell (.inl rfl) _
    have fin : ∀ (w' : World) (x : List Int), Kp (fun x => x = c) w w' → OwnF 1 encI w' m3 3 (.slice (some ⟨c, 0, none⟩) yb[k].length cap) x → MemO w' lo hi va (.slice (some ⟨b, 0, none⟩) n d) ya (yb.set k x) := fun w' x q hx =>
      ⟨m1, m2, m3, m4, r1, r2, r3, r4, r5, B.kp q (fun x e => by omega), hset _ _ (q.mono fun x _ e => by subst e; exact ownBlock_at _ _ _) hx⟩
    refine ⟨b, c, cap, rfl, by omega, by omega, by rw [hcell, h4], by omega, by omega, hcs, hf, fun j hj z => fin _ _ (kk _ j z (Kp.refl _ _)) (hO.set1 (enc := encI) j hj z), ?_⟩
    refine fin _ _ (kk _ 3 0 (kk _ 2 0 (kk _ 1 0 (kk _ 0 0 (Kp.refl _ _))))) ?_
    have o0 := hO.set1 (enc := encI) 0 (by omega) 0
    rw [show yb[k].length = (yb[k].set 0 0).length by simp] at o0
    have o1 := o0.set1 (enc := encI) 1 (by simp; omega) 0
    rw [show (yb[k].set 0 0).length = ((yb[k].set 0 0).set 1 0).length by simp] at o1
    have o2 := o1.set1 (enc := encI) 2 (by simp; omega) 0
    rw [show ((yb[k].set 0 0).set 1 0).length = (((yb[k].set 0 0).set 1 0).set 2 0).length by simp] at o2
    have o3 := o2.set1 (enc := encI) 3 (by simp; omega) 0
    rw [four _ h4] at o3
    rw [show (((yb[k].set 0 0).set 1 0).set 2 0).length = yb[k].length by simp] at o3
    exact o3
/-- cleared so far, in the box bo -/
def Clr (w : World) (bo lo1 : Nat) (ua ub : Value) (ya : List Int) (yb : List (List Int)) (wr : World) : Prop := New w wr ∧ wr.heap[w.heap.size + 1]? = some (.cells #[.slice none 0 0, .slice none 0 0] 101 (0, 0)) ∧ wr.heap[bo]? = some (.cells #[ua, ub] 101 (0, 0)) ∧ MemO wr lo1 bo ua ub ya yb
/-- a memory of the call's own -/
def GotM (w : World) (ya : List Int) (yb : List (List Int)) (e : Ending) (w' : World) : Prop := ∃ ua ub, e = .returned (.agg #[ua, ub]) ∧ New w w' ∧ MemO w' w.heap.size w'.heap.size ua ub ya yb
end Go.Proofs.YtckikiaockkmbaaDoor.PartC
