/- What stands at the places where the ways of one step of the reference meet; a machine of the call's own in blocks lo .. hi - 1 but for block g. No conditions. -/
import Derived.Test.YtljokgoghphgdaaStepK
import Derived.Test.YtljokgoghphgdaaOwnM
namespace Go.Proofs.Ytljokgoghphgdaa.MarkC
open Go.RowKit Kit
set_option linter.unusedVariables false
def MachH (w : World) (lo hi g : Nat) (vr va vb : Value) (yr ya : List Int) (yb : List (List Int)) : Prop := ∃ p1 p2 p3 p4, lo ≤ p1 ∧ p2 ≤ hi ∧ lo ≤ p3 ∧ p4 ≤ hi ∧ (p2 ≤ p3 ∨ p4 ≤ p1) ∧ (g < p1 ∨ p2 ≤ g) ∧ (g < p3 ∨ p4 ≤ g) ∧ OwnR 1 encI w p1 p2 3 vr yr ∧ MemO w p3 p4 va vb ya yb
namespace MachH
variable {w w' : World} {lo hi g : Nat} {vr va vb : Value} {yr ya : List Int} {yb : List (List Int)}
theorem of (h : MachO w lo hi vr va vb yr ya yb) : MachH w lo hi hi vr va vb yr ya yb := by
  obtain ⟨p1, p2, p3, p4, q1, q2, q3, q4, q5, A, B⟩ := h
  exact ⟨p1, p2, p3, p4, q1, q2, q3, q4, q5, .inr q2, .inr q4, A, B⟩
theorem toO (h : MachH w lo hi g vr va vb yr ya yb) : MachO w lo hi vr va vb yr ya yb := by
  obtain ⟨p1, p2, p3, p4, q1, q2, q3, q4, q5, _, _, A, B⟩ := h
  exact ⟨p1, p2, p3, p4, q1, q2, q3, q4, q5, A, B⟩
theorem toR (h : MachH w lo hi g vr va vb yr ya yb) : Rec.MachR w lo hi vr va vb yr ya yb := h.toO.toR
theorem kp (h : MachH w lo hi g vr va vb yr ya yb) {S : Nat → Prop} (k : Kp S w w') (hs : ∀ b, S b → b < lo ∨ hi ≤ b ∨ b = g) : MachH w' lo hi g vr va vb yr ya yb := by
  obtain ⟨p1, p2, p3, p4, q1, q2, q3, q4, q5, q6, q7, A, B⟩ := h
  exact ⟨p1, p2, p3, p4, q1, q2, q3, q4, q5, q6, q7, A.kp k (fun b hb => by have := hs b hb; omega), B.kp k (fun b hb => by have := hs b hb; omega)⟩
theorem new (h : MachH w lo hi g vr va vb yr ya yb) (hh : hi ≤ w.heap.size) (k : New w w') : MachH w' lo hi g vr va vb yr ya yb := h.kp k (fun _ f => f.elim)
theorem regs {n d : Nat} {a : Option Addr} (h : MachH w lo hi g (.slice a n d) va vb yr ya yb) (h0 : 0 < yr.length) :
    ∃ b, a = some ⟨b, 0, none⟩ ∧ lo ≤ b ∧ b < hi ∧ b ≠ g ∧ (∀ i (h : i < yr.length), w.cell? ⟨b, i, none⟩ = some (.int .i64 yr[i])) ∧ (∀ i, w.frozen? ⟨b, i, none⟩ = false) ∧
      ∀ j (hj : j < yr.length) z, MachH (w.setCell ⟨b, j, none⟩ (.int .i64 z)) lo hi g (.slice a n d) va vb (yr.set j z) ya yb := by
  obtain ⟨p1, p2, p3, p4, q1, q2, q3, q4, q5, q6, q7, A, B⟩ := h
  obtain ⟨hn, b, rfl, hc, hf⟩ := own_cells A.own h0
  have hl := A.own.lt b (ownBlock_at _ _ _)
  have ht := A.top b (ownBlock_at _ _ _)
  refine ⟨b, rfl, by omega, by omega, by omega, hc, hf, fun j hj z => ⟨p1, p2, p3, p4, q1, q2, q3, q4, q5, q6, q7, OwnR_set A hn j hj z, B.kp (S := fun x => x = b) ((Kp.refl (fun x => x = b) w).setCell (.inl rfl) _) (fun x e => by omega)⟩⟩
theorem vals {n d : Nat} {a : Option Addr} (h : MachH w lo hi g vr (.slice a n d) vb yr ya yb) (h0 : 0 < ya.length) :
    ∃ b, a = some ⟨b, 0, none⟩ ∧ lo ≤ b ∧ b < hi ∧ b ≠ g ∧ (∀ i (h : i < ya.length), w.cell? ⟨b, i, none⟩ = some (.int .i64 ya[i])) ∧ (∀ i, w.frozen? ⟨b, i, none⟩ = false) ∧
      ∀ j (hj : j < ya.length) z, MachH (w.setCell ⟨b, j, none⟩ (.int .i64 z)) lo hi g vr (.slice a n d) vb yr (ya.set j z) yb := by
  obtain ⟨p1, p2, p3, p4, q1, q2, q3, q4, q5, q6, q7, A, m, r1, r2, B, C⟩ := h
  obtain ⟨hn, b, rfl, hc, hf⟩ := own_cells B.own h0
  have hl := B.own.lt b (ownBlock_at _ _ _)
  have ht := B.top b (ownBlock_at _ _ _)
  refine ⟨b, rfl, by omega, by omega, by omega, hc, hf, fun j hj z => ⟨p1, p2, p3, p4, q1, q2, q3, q4, q5, q6, q7, A.kp (S := fun x => x = b) ((Kp.refl (fun x => x = b) w).setCell (.inl rfl) _) (fun x e => by omega), m, r1, r2, OwnR_set B hn j hj z, C.kp (S := fun x => x = b) ((Kp.refl (fun x => x = b) w).setCell (.inl rfl) _) (fun x e => by omega)⟩⟩
theorem rows {n d : Nat} {a : Option Addr} (h : MachH w lo hi g vr va (.slice a n d) yr ya yb) (k : Nat) (hk : k < yb.length) (h0 : 0 < yb[k].length) :
    ∃ b c d2, a = some ⟨b, 0, none⟩ ∧ lo ≤ b ∧ b < hi ∧ w.cell? ⟨b, k, none⟩ = some (.slice (some ⟨c, 0, none⟩) yb[k].length d2) ∧ lo ≤ c ∧ c < hi ∧ c ≠ g ∧ (∀ i (h : i < yb[k].length), w.cell? ⟨c, i, none⟩ = some (.int .i64 yb[k][i])) ∧ (∀ i, w.frozen? ⟨c, i, none⟩ = false) ∧
      ∀ j (hj : j < yb[k].length) z, MachH (w.setCell ⟨c, j, none⟩ (.int .i64 z)) lo hi g vr va (.slice a n d) yr ya (yb.set k (yb[k].set j z)) := by
  obtain ⟨p1, p2, p3, p4, q1, q2, q3, q4, q5, q6, q7, A, m, r1, r2, B, C⟩ := h
  obtain ⟨b, s, rfl, hb1, hb2, hcell, hO, hne, hset⟩ := C.row k hk
  rcases hO.form with ⟨e, _⟩ | ⟨c, cap, cs, rfl, hc1, _, _, hh, hn, hc⟩
  · rw [e] at h0; exact absurd h0 (Nat.lt_irrefl _)
  · have hcc := hne c (ownBlock_at _ _ _)
    obtain ⟨_, c', e', hcs, hf⟩ := own_cells hO h0
    cases e'
    refine ⟨b, c, cap, rfl, by omega, by omega, hcell, by omega, by omega, by omega, hcs, hf, fun j hj z => ?_⟩
    have kk : Kp (fun x => x = c) w (w.setCell ⟨c, j, none⟩ (.int .i64 z)) := (Kp.refl (fun x => x = c) w).setCell (.inl rfl) _
    refine ⟨p1, p2, p3, p4, q1, q2, q3, q4, q5, q6, q7, A.kp kk (fun x e => by omega), m, r1, r2, B.kp kk (fun x e => by omega), hset _ _ (kk.mono fun x _ e => by subst e; exact ownBlock_at _ _ _) (hO.set1 (enc := encI) j hj z)⟩
end MachH
end Go.Proofs.Ytljokgoghphgdaa.MarkC
namespace Go.Proofs.Ytljokgoghphgdaa.StepH
open Go.RowKit Kit Step MarkC StepK
/-- behind the first event: bx the instruction's box, then the machine's and the result's (w.heap.size + 1, + 2) -/
structure Mid (w wd : World) (lo hi g bx : Nat) (tv v1 vr va vb : Value) (y : Ins) (p : Int) (yr ya : List Int) (yb : List (List Int)) : Prop where
  N : Kp (fun k => tv.ownBlock = some k) w wd
  hbx : w.heap.size + 1 + 1 < bx
  hh : hi ≤ w.heap.size
  tl : ∀ b, tv.ownBlock = some b → b < w.heap.size
  off : ∀ b, v1.ownBlock = some b → b < lo ∨ hi ≤ b ∨ b = g
  old : ∀ b, v1.ownBlock = some b → tv.ownBlock = some b ∨ bx < b
  x : wd.heap[bx]? = some (.cells #[.int .i64 y.op, .int .i64 y.a, .int .i64 y.b, .int .i64 y.c, .int .i64 y.d] 44)
  s : wd.heap[w.heap.size + 1]? = some (.cells #[.int .i64 p, vr, va, vb] 31)
  r : wd.heap[w.heap.size + 1 + 1]? = some (.cells #[.int .i64 0, .slice none 0 0, .slice none 0 0, .slice none 0 0] 31)
  o : MachH wd lo hi g vr va vb yr ya yb
theorem mid {w w1 wd : World} {lo hi g bx base : Nat} {tv v1 vr va vb : Value} {y : Ins} {p : Int} {yr ya : List Int} {yb : List (List Int)} (N1 : New w w1) (hbx : w.heap.size + 1 + 1 < bx) (hh : hi ≤ w.heap.size) (tl : ∀ b, tv.ownBlock = some b → base ≤ b ∧ b < w.heap.size)
    (off : ∀ b, tv.ownBlock = some b → b < lo ∨ hi ≤ b ∨ b = g) (k : Kp (fun k => tv.ownBlock = some k) w1 wd) (ha : v1.ownBlock = tv.ownBlock ∨ ∀ b, v1.ownBlock = some b → w1.heap.size ≤ b)
    (bX : w1.heap[bx]? = some (.cells #[.int .i64 y.op, .int .i64 y.a, .int .i64 y.b, .int .i64 y.c, .int .i64 y.d] 44)) (bS : w1.heap[w.heap.size + 1]? = some (.cells #[.int .i64 p, vr, va, vb] 31))
    (bR : w1.heap[w.heap.size + 1 + 1]? = some (.cells #[.int .i64 0, .slice none 0 0, .slice none 0 0, .slice none 0 0] 31)) (hO : MachH w lo hi g vr va vb yr ya yb) : Mid w wd lo hi g bx tv v1 vr va vb y p yr ya yb := by
  have hx := heap_lt bX
  have keep : ∀ {b : Nat} {x : Obj}, w1.heap[b]? = some x → w.heap.size ≤ b → wd.heap[b]? = some x := fun h hb => (k.block _ (heap_lt h) (fun e => by have := (tl _ e).2; omega)).trans h
  refine ⟨(N1.mono fun _ _ f => f.elim).trans k, hbx, hh, fun b e => (tl b e).2, fun b e => ?_, fun b e => ?_, keep bX (by omega), keep bS (by omega), keep bR (by omega), (hO.new hh N1).kp k fun b e => off b e⟩
  · rcases ha with h | h
    · exact off b (h ▸ e)
    · have := h b e; have := N1.size; omega
  · rcases ha with h | h
    · exact .inl (h ▸ e)
    · have := h b e; exact .inr (by omega)
/-- where the ways of the instructions meet -/
structure Mid2 (we wz : World) (lo hi g base : Nat) (v1 v vr va vb : Value) (s : Ms) (l : List Ev) : Prop where
  k : Kp (fun k => lo ≤ k ∧ k < hi ∧ k ≠ g ∨ v1.ownBlock = some k) we wz
  o : MachH wz lo hi g vr va vb s.r s.v s.a
  e : OwnF 2 encE wz base 41 v l
  a : v.ownBlock = v1.ownBlock ∨ ∀ b, v.ownBlock = some b → we.heap.size ≤ b
theorem Mid2.same {we : World} {lo hi g base : Nat} {v1 vr va vb : Value} {s : Ms} {l : List Ev} (hO : MachH we lo hi g vr va vb s.r s.v s.a) (hE : OwnF 2 encE we base 41 v1 l) : Mid2 we we lo hi g base v1 v1 vr va vb s l := ⟨Kp.refl _ _, hO, hE, .inl rfl⟩
theorem Mid2.app {we wf : World} {lo hi g base : Nat} {v1 v vr va vb : Value} {s : Ms} {l : List Ev} (kf : Kp (fun k => v1.ownBlock = some k) we wf) (a : v.ownBlock = v1.ownBlock ∨ ∀ b, v.ownBlock = some b → we.heap.size ≤ b) (hO : MachH we lo hi g vr va vb s.r s.v s.a) (off : ∀ b, v1.ownBlock = some b → b < lo ∨ hi ≤ b ∨ b = g)
    (hE : OwnF 2 encE wf base 41 v l) : Mid2 we wf lo hi g base v1 v vr va vb s l := ⟨kf.mono fun _ _ e => .inr e, hO.kp kf off, hE, a⟩
theorem Mid2.set {we wf : World} {lo hi g base b o : Nat} {v1 v vr va vb u : Value} {s : Ms} {l : List Ev} (kf : Kp (fun k => v1.ownBlock = some k) we wf) (a : v.ownBlock = v1.ownBlock ∨ ∀ b, v.ownBlock = some b → we.heap.size ≤ b) (off : ∀ b, v1.ownBlock = some b → b < lo ∨ hi ≤ b ∨ b = g) (hh : hi ≤ we.heap.size)
    (hE : OwnF 2 encE wf base 41 v l) (h1 : lo ≤ b) (h2 : b < hi) (h3 : b ≠ g) (hO : MachH (wf.setCell ⟨b, o, none⟩ u) lo hi g vr va vb s.r s.v s.a) : Mid2 we (wf.setCell ⟨b, o, none⟩ u) lo hi g base v1 v vr va vb s l := by
  have ks : Kp (fun k => k = b) wf (wf.setCell ⟨b, o, none⟩ u) := (Kp.refl (fun k => k = b) wf).setCell (p := ⟨b, o, none⟩) (.inl rfl) _
  refine ⟨(kf.mono fun _ _ e => .inr e).trans (ks.mono fun k _ e => by subst e; exact .inl ⟨h1, h2, h3⟩), hO, hE.kp ks fun c hc e => ?_, a⟩
  subst e
  rcases a with h | h
  · have := off _ (h ▸ hc); omega
  · have := h _ hc; omega
theorem Mid2.drew {we wz : World} {lo hi g base : Nat} {v1 v vr va vb : Value} {s : Ms} {l : List Ev} (h : Mid2 we wz lo hi g base v1 v vr va vb s l) : Mid2 we wz.drew lo hi g base v1 v vr va vb s l :=
  ⟨h.k.drew, h.o.kp ((Kp.refl (fun _ => False) wz).drew) (fun _ f => f.elim), h.e.new ((Kp.refl _ _).drew), h.a⟩
/-- what one step of the reference leaves -/
def PostX (w : World) (lo hi g base : Nat) (tv vr va vb : Value) (s : Ms) (l : List Ev) (e : Ending) (w' : World) : Prop := ∃ v, e = .returned (.tuple #[.agg #[.int .i64 s.pc, vr, va, vb], v]) ∧ Kp (fun k => lo ≤ k ∧ k < hi ∧ k ≠ g ∨ tv.ownBlock = some k) w w' ∧ MachH w' lo hi g vr va vb s.r s.v s.a ∧ OwnF 2 encE w' base 41 v l ∧ ∀ b, v.ownBlock = some b → tv.ownBlock = some b ∨ w.heap.size ≤ b
end Go.Proofs.Ytljokgoghphgdaa.StepH
