/- What the walks of one step share: the state that valid code may be in, small equations, and what stands at the places where the ways meet. No conditions. -/
import Derived.Test.YtljokgoghphgdaaStepP
import Derived.Test.YtljokgoghphgdaaMachS
import Derived.Test.YtljokgoghphgdaaAppS
import Derived.Test.YtljokgoghphgdaaGrow
namespace Go.Proofs.Ytljokgoghphgdaa.StepK
open Go.RowKit Kit Step MarkC
set_option linter.unusedVariables false
theorem at0_nat {l : List Int} {a : Nat} (h : a < l.length) : at0 l a = l[a] := by simp [at0, h]
theorem row0_nat {l : List (List Int)} {a : Nat} (h : a < l.length) : row0 l a = l[a] := by simp [row0, h]
theorem at0_mod {l : List Int} {n : Nat} (h : n % 4 < l.length) : at0 l ((n : Int) % 4) = l[n % 4] := by rw [show ((n : Int) % 4) = ((n % 4 : Nat) : Int) by omega]; exact at0_nat h
theorem put0_mod (l : List Int) (n : Nat) (z : Int) : put0 l ((n : Int) % 4) z = l.set (n % 4) z := by
  rw [show ((n : Int) % 4) = ((n % 4 : Nat) : Int) by omega]
  show l.set (((n % 4 : Nat) : Int)).toNat z = _
  rw [Int.toNat_natCast]
theorem put0_nat (l : List Int) (a : Nat) (z : Int) : put0 l a z = l.set a z := by simp [put0]
/-- a state that code of nv variables, na arrays and nl instructions may be in -/
structure Okm (nv na nl : Nat) (s : Ms) : Prop where
  rl : s.r.length = 14
  rv : ∀ i (h : i < s.r.length), 0 ≤ s.r[i] ∧ s.r[i] ≤ 255
  vl : s.v.length = nv
  vv : ∀ i (h : i < s.v.length), 0 ≤ s.v[i] ∧ s.v[i] ≤ 255
  al : s.a.length = na
  ar : ∀ i (h : i < s.a.length), s.a[i].length = 4
  av : ∀ i (h : i < s.a.length) j (h' : j < s.a[i].length), 0 ≤ s.a[i][j] ∧ s.a[i][j] ≤ 255
theorem ev_own {w : World} {be : Nat} {k u : Int} {T : TypeId} {base : Nat} (h : w.heap[be]? = some (.cells #[.int .i64 k, .int .i64 u] T (0, 0))) (hb : base ≤ be) : OwnF 2 encE w base T (.slice (some ⟨be, 0, none⟩) 1 1) [(k, u)] :=
  OwnF.mk' (xs := [(k, u)]) h hb (by simp) (by decide) (by simp) (fun i hi t ht => by
    obtain rfl : i = 0 := by simpa using hi
    match t, ht with
    | 0, _ => rfl
    | 1, _ => rfl)
theorem app_kp {w w1 : World} {be : Nat} {o : Obj} {n c : Nat} (h : Kp (fun k => (Value.slice (some ⟨be, 0, none⟩) n c).ownBlock = some k) (w.alloc o) w1) : Kp (fun k => k = be) w w1 :=
  ((Kp.refl (fun k => k = be) w).alloc o).trans (h.mono fun k _ e => by simpa [Value.ownBlock, eq_comm] using e)
theorem infoE : (Try.prog.info? 41).map (fun i => (i.zero, i.size, i.bytes)) = some (some (.agg #[.int .i64 0, .int .i64 0]), 2, 16) := by kernel_rfl
/-- where the next instruction stands -/
def mv (y : Ins) (p : Int) (r : List Int) : Int := if y.op = 8 then y.a else if y.op = 9 ∧ at0 r y.a = 0 ∨ y.op = 10 ∧ at0 r y.a ≠ 0 then y.b else if y.op = 13 then p else p + 1
theorem mv_eff {nv na nl : Nat} {y : Ins} (h : View nv na nl y) {s : Ms} (hr : s.r.length = 14) : mv y s.pc (eff y s).1.r = (eff y s).1.pc := by
  cases h with
  | loop a b ha hb =>
    have e : at0 (put0 s.r a ((at0 s.r a + 255) % 256)) a = (at0 s.r a + 255) % 256 := by
      rw [put0_nat, at0_nat (by rw [List.length_set]; omega), List.getElem_set_self]
    by_cases h0 : (at0 s.r a + 255) % 256 = 0
    · rw [h0] at e
      simp [mv, eff, e, h0]
    · simp [mv, eff, e, h0]
  | zero a b ha hb => simp [mv, eff]
  | _ => simp [mv, eff]
theorem eff_len {nv na nl : Nat} {y : Ins} (h : View nv na nl y) (s : Ms) : (eff y s).1.r.length = s.r.length ∧ (eff y s).2.length ≤ 1 := by
  cases h <;> simp [eff, put0_nat]
/-- behind the first event: bx the instruction's box, then the machine's and the result's (w.heap.size + 1, + 2) -/
structure Mid (w wd : World) (lo hi bx : Nat) (tv v1 vr va vb : Value) (y : Ins) (p : Int) (yr ya : List Int) (yb : List (List Int)) : Prop where
  N : Kp (fun k => tv.ownBlock = some k) w wd
  hbx : w.heap.size + 1 + 1 < bx
  hh : hi ≤ w.heap.size
  tl : ∀ b, tv.ownBlock = some b → b < w.heap.size
  off : ∀ b, v1.ownBlock = some b → b < lo ∨ hi ≤ b
  old : ∀ b, v1.ownBlock = some b → tv.ownBlock = some b ∨ bx < b
  x : wd.heap[bx]? = some (.cells #[.int .i64 y.op, .int .i64 y.a, .int .i64 y.b, .int .i64 y.c, .int .i64 y.d] 44)
  s : wd.heap[w.heap.size + 1]? = some (.cells #[.int .i64 p, vr, va, vb] 31)
  r : wd.heap[w.heap.size + 1 + 1]? = some (.cells #[.int .i64 0, .slice none 0 0, .slice none 0 0, .slice none 0 0] 31)
  o : MachO wd lo hi vr va vb yr ya yb
theorem mid {w w1 wd : World} {lo hi bx base : Nat} {tv v1 vr va vb : Value} {y : Ins} {p : Int} {yr ya : List Int} {yb : List (List Int)} (N1 : New w w1) (hbx : w.heap.size + 1 + 1 < bx) (hh : hi ≤ w.heap.size) (tl : ∀ b, tv.ownBlock = some b → base ≤ b ∧ b < w.heap.size)
    (off : ∀ b, tv.ownBlock = some b → b < lo ∨ hi ≤ b) (k : Kp (fun k => tv.ownBlock = some k) w1 wd) (ha : v1.ownBlock = tv.ownBlock ∨ ∀ b, v1.ownBlock = some b → w1.heap.size ≤ b)
    (bX : w1.heap[bx]? = some (.cells #[.int .i64 y.op, .int .i64 y.a, .int .i64 y.b, .int .i64 y.c, .int .i64 y.d] 44)) (bS : w1.heap[w.heap.size + 1]? = some (.cells #[.int .i64 p, vr, va, vb] 31))
    (bR : w1.heap[w.heap.size + 1 + 1]? = some (.cells #[.int .i64 0, .slice none 0 0, .slice none 0 0, .slice none 0 0] 31)) (hO : MachO w lo hi vr va vb yr ya yb) : Mid w wd lo hi bx tv v1 vr va vb y p yr ya yb := by
  have hx := heap_lt bX
  have keep : ∀ {b : Nat} {x : Obj}, w1.heap[b]? = some x → w.heap.size ≤ b → wd.heap[b]? = some x := fun h hb => (k.block _ (heap_lt h) (fun e => by have := (tl _ e).2; omega)).trans h
  refine ⟨(N1.mono fun _ _ f => f.elim).trans k, hbx, hh, fun b e => (tl b e).2, fun b e => ?_, fun b e => ?_, keep bX (by omega), keep bS (by omega), keep bR (by omega), (hO.new hh N1).kp k fun b e => off b e⟩
  · rcases ha with h | h
    · exact off b (h ▸ e)
    · have := h b e; have := N1.size; omega
  · rcases ha with h | h
    · exact .inl (h ▸ e)
    · have := h b e; exact .inr (by omega)
/-- where the ways of the instructions meet -/
structure Mid2 (we wz : World) (lo hi base : Nat) (v1 v vr va vb : Value) (s : Ms) (l : List Ev) : Prop where
  k : Kp (fun k => lo ≤ k ∧ k < hi ∨ v1.ownBlock = some k) we wz
  o : MachO wz lo hi vr va vb s.r s.v s.a
  e : OwnF 2 encE wz base 41 v l
  a : v.ownBlock = v1.ownBlock ∨ ∀ b, v.ownBlock = some b → we.heap.size ≤ b
theorem Mid2.same {we : World} {lo hi base : Nat} {v1 vr va vb : Value} {s : Ms} {l : List Ev} (hO : MachO we lo hi vr va vb s.r s.v s.a) (hE : OwnF 2 encE we base 41 v1 l) : Mid2 we we lo hi base v1 v1 vr va vb s l := ⟨Kp.refl _ _, hO, hE, .inl rfl⟩
theorem Mid2.app {we wf : World} {lo hi base : Nat} {v1 v vr va vb : Value} {s : Ms} {l : List Ev} (kf : Kp (fun k => v1.ownBlock = some k) we wf) (a : v.ownBlock = v1.ownBlock ∨ ∀ b, v.ownBlock = some b → we.heap.size ≤ b) (hO : MachO we lo hi vr va vb s.r s.v s.a) (off : ∀ b, v1.ownBlock = some b → b < lo ∨ hi ≤ b)
    (hE : OwnF 2 encE wf base 41 v l) : Mid2 we wf lo hi base v1 v vr va vb s l := ⟨kf.mono fun _ _ e => .inr e, hO.kp kf off, hE, a⟩
theorem Mid2.set {we wf : World} {lo hi base b o : Nat} {v1 v vr va vb u : Value} {s : Ms} {l : List Ev} (kf : Kp (fun k => v1.ownBlock = some k) we wf) (a : v.ownBlock = v1.ownBlock ∨ ∀ b, v.ownBlock = some b → we.heap.size ≤ b) (off : ∀ b, v1.ownBlock = some b → b < lo ∨ hi ≤ b) (hh : hi ≤ we.heap.size)
    (hE : OwnF 2 encE wf base 41 v l) (h1 : lo ≤ b) (h2 : b < hi) (hO : MachO (wf.setCell ⟨b, o, none⟩ u) lo hi vr va vb s.r s.v s.a) : Mid2 we (wf.setCell ⟨b, o, none⟩ u) lo hi base v1 v vr va vb s l := by
  have ks : Kp (fun k => k = b) wf (wf.setCell ⟨b, o, none⟩ u) := (Kp.refl (fun k => k = b) wf).setCell (p := ⟨b, o, none⟩) (.inl rfl) _
  refine ⟨(kf.mono fun _ _ e => .inr e).trans (ks.mono fun k _ e => by subst e; exact .inl ⟨h1, h2⟩), hO, hE.kp ks fun c hc e => ?_, a⟩
  subst e
  rcases a with h | h
  · have := off _ (h ▸ hc); omega
  · have := h _ hc; omega
theorem Mid2.drew {we wz : World} {lo hi base : Nat} {v1 v vr va vb : Value} {s : Ms} {l : List Ev} (h : Mid2 we wz lo hi base v1 v vr va vb s l) : Mid2 we wz.drew lo hi base v1 v vr va vb s l :=
  ⟨h.k.drew, h.o.kp ((Kp.refl (fun _ => False) wz).drew) (fun _ f => f.elim), h.e.new ((Kp.refl _ _).drew), h.a⟩
/-- what one step of the reference leaves -/
def PostX (w : World) (lo hi base : Nat) (tv vr va vb : Value) (s : Ms) (l : List Ev) (e : Ending) (w' : World) : Prop := ∃ v, e = .returned (.tuple #[.agg #[.int .i64 s.pc, vr, va, vb], v]) ∧ Kp (fun k => lo ≤ k ∧ k < hi ∨ tv.ownBlock = some k) w w' ∧ MachO w' lo hi vr va vb s.r s.v s.a ∧ OwnF 2 encE w' base 41 v l ∧ ∀ b, v.ownBlock = some b → tv.ownBlock = some b ∨ w.heap.size ≤ b
end Go.Proofs.Ytljokgoghphgdaa.StepK
