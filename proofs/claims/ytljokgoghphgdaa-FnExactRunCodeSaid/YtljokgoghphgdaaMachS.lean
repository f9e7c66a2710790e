/- One change of a machine's register, variable or element, in the ownership of the whole machine. No conditions. -/
import Derived.Test.YtljokgoghphgdaaRec
import Derived.Test.YtljokgoghphgdaaOwnM
namespace Go.Proofs.Ytljokgoghphgdaa.MarkC
open Go.RowKit Kit
set_option linter.unusedVariables false
theorem own_cells {w : World} {base n d : Nat} {a : Option Addr} {T : TypeId} {xs : List Int} (h : OwnF 1 encI w base T (.slice a n d) xs) (h0 : 0 < xs.length) :
    n = xs.length ∧ ∃ b, a = some ⟨b, 0, none⟩ ∧ (∀ i (h : i < xs.length), w.cell? ⟨b, i, none⟩ = some (.int .i64 xs[i])) ∧ ∀ i, w.frozen? ⟨b, i, none⟩ = false := by
  rcases h.form with ⟨e, _⟩ | ⟨b, cap, cs, e, hb, _, _, hh, hn, hc⟩
  · subst e; exact absurd h0 (Nat.lt_irrefl _)
  · cases e
    refine ⟨rfl, b, rfl, fun i hi => ?_, fun i => frozen_of_heap hh i⟩
    have := hc i hi 0 (by omega)
    rw [Nat.mul_one, Nat.add_zero] at this
    exact (cell_of_heap hh i).trans this
theorem ownBlock_at (b n d : Nat) : (Value.slice (some ⟨b, 0, none⟩) n d).ownBlock = some b := by simp [Value.ownBlock]
theorem OwnR_set {w : World} {lo hi b n d : Nat} {T : TypeId} {xs : List Int} (h : OwnR 1 encI w lo hi T (.slice (some ⟨b, 0, none⟩) n d) xs) (hn : n = xs.length) (j : Nat) (hj : j < xs.length) (z : Int) :
    OwnR 1 encI (w.setCell ⟨b, j, none⟩ (.int .i64 z)) lo hi T (.slice (some ⟨b, 0, none⟩) n d) (xs.set j z) := by
  subst hn
  exact ⟨h.own.set1 (enc := encI) j hj z, h.top⟩
theorem MachO.regs {w : World} {lo hi n d : Nat} {a : Option Addr} {va vb : Value} {yr ya : List Int} {yb : List (List Int)} (h : MachO w lo hi (.slice a n d) va vb yr ya yb) (h0 : 0 < yr.length) :
    ∃ b, a = some ⟨b, 0, none⟩ ∧ lo ≤ b ∧ b < hi ∧ (∀ i (h : i < yr.length), w.cell? ⟨b, i, none⟩ = some (.int .i64 yr[i])) ∧ (∀ i, w.frozen? ⟨b, i, none⟩ = false) ∧
      ∀ j (hj : j < yr.length) z, MachO (w.setCell ⟨b, j, none⟩ (.int .i64 z)) lo hi (.slice a n d) va vb (yr.set j z) ya yb := by
  obtain ⟨p1, p2, p3, p4, q1, q2, q3, q4, q5, A, B⟩ := h
  obtain ⟨hn, b, rfl, hc, hf⟩ := own_cells A.own h0
  have hl := A.own.lt b (ownBlock_at _ _ _)
  have ht := A.top b (ownBlock_at _ _ _)
  refine ⟨b, rfl, by omega, by omega, hc, hf, fun j hj z => ⟨p1, p2, p3, p4, q1, q2, q3, q4, q5, OwnR_set A hn j hj z, B.kp (S := fun x => x = b) ((Kp.refl (fun x => x = b) w).setCell (.inl rfl) _) (fun x e => by omega)⟩⟩
theorem MachO.vals {w : World} {lo hi n d : Nat} {a : Option Addr} {vr vb : Value} {yr ya : List Int} {yb : List (List Int)} (h : MachO w lo hi vr (.slice a n d) vb yr ya yb) (h0 : 0 < ya.length) :
    ∃ b, a = some ⟨b, 0, none⟩ ∧ lo ≤ b ∧ b < hi ∧ (∀ i (h : i < ya.length), w.cell? ⟨b, i, none⟩ = some (.int .i64 ya[i])) ∧ (∀ i, w.frozen? ⟨b, i, none⟩ = false) ∧
      ∀ j (hj : j < ya.length) z, MachO (w.setCell ⟨b, j, none⟩ (.int .i64 z)) lo hi vr (.slice a n d) vb yr (ya.set j z) yb := by
  obtain ⟨p1, p2, p3, p4, q1, q2, q3, q4, q5, A, m, r1, r2, B, C⟩ := h
  obtain ⟨hn, b, rfl, hc, hf⟩ := own_cells B.own h0
  have hl := B.own.lt b (ownBlock_at _ _ _)
  have ht := B.top b (ownBlock_at _ _ _)
  refine ⟨b, rfl, by omega, by omega, hc, hf, fun j hj z => ⟨p1, p2, p3, p4, q1, q2, q3, q4, q5, A.kp (S := fun x => x = b) ((Kp.refl (fun x => x = b) w).setCell (.inl rfl) _) (fun x e => by omega), m, r1, r2, OwnR_set B hn j hj z, C.kp (S := fun x => x = b) ((Kp.refl (fun x => x = b) w).setCell (.inl rfl) _) (fun x e => by omega)⟩⟩
theorem MachO.rows {w : World} {lo hi n d : Nat} {a : Option Addr} {vr va : Value} {yr ya : List Int} {yb : List (List Int)} (h : MachO w lo hi vr va (.slice a n d) yr ya yb) (k : Nat) (hk : k < yb.length) (h0 : 0 < yb[k].length) :
    ∃ b c d2, a = some ⟨b, 0, none⟩ ∧ lo ≤ b ∧ b < hi ∧ w.cell? ⟨b, k, none⟩ = some (.slice (some ⟨c, 0, none⟩) yb[k].length d2) ∧ lo ≤ c ∧ c < hi ∧ (∀ i (h : i < yb[k].length), w.cell? ⟨c, i, none⟩ = some (.int .i64 yb[k][i])) ∧ (∀ i, w.frozen? ⟨c, i, none⟩ = false) ∧
      ∀ j (hj : j < yb[k].length) z, MachO (w.setCell ⟨c, j, none⟩ (.int .i64 z)) lo hi vr va (.slice a n d) yr ya (yb.set k (yb[k].set j z)) := by
  obtain ⟨p1, p2, p3, p4, q1, q2, q3, q4, q5, A, m, r1, r2, B, C⟩ := h
  obtain ⟨b, s, rfl, hb1, hb2, hcell, hO, hne, hset⟩ := C.row k hk
  rcases hO.form with ⟨e, _⟩ | ⟨c, cap, cs, rfl, hc1, _, _, hh, hn, hc⟩
  · rw [e] at h0; exact absurd h0 (Nat.lt_irrefl _)
  · have hcc := hne c (ownBlock_at _ _ _)
    obtain ⟨_, c', e', hcs, hf⟩ := own_cells hO h0
    cases e'
    refine ⟨b, c, cap, rfl, by omega, by omega, hcell, by omega, by omega, hcs, hf, fun j hj z => ?_⟩
    have kk : Kp (fun x => x = c) w (w.setCell ⟨c, j, none⟩ (.int .i64 z)) := (Kp.refl (fun x => x = c) w).setCell (.inl rfl) _
    refine ⟨p1, p2, p3, p4, q1, q2, q3, q4, q5, A.kp kk (fun x e => by omega), m, r1, r2, B.kp kk (fun x e => by omega), hset _ _ (kk.mono fun x _ e => by subst e; exact ownBlock_at _ _ _) (hO.set1 (enc := encI) j hj z)⟩
end Go.Proofs.Ytljokgoghphgdaa.MarkC
