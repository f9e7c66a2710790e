/- One step of the reference's machine. Conditions: the machine is a valid state of valid code; the trace is short. -/
import Derived.Test.YtbicpkmlionldaaVP7
import Derived.Test.YtbicpkmlionldaaVP5
import Derived.Test.YtbicpkmlionldaaVP2
import Derived.BigRegion
import Derived.Deep.RegionWith
import Derived.StillTailTactics
import Derived.Deep.CutBlock
import Derived.Test.YtbicpkmlionldaaVP1
namespace Go.Proofs.Ytbicpkmlionldaa.StepX
open Go.RowKit Kit Step MarkC StepK StepH
set_option linter.unusedVariables false
/-- an event more -/
theorem _root_.Go.Proofs.Ytbicpkmlionldaa.StepH.Mid.on {w wd wf : World} {lo hi g bx : Nat} {tv v1 vr va vb : Value} {y : Ins} {p : Int} {yr ya : List Int} {yb : List (List Int)} (h : Mid w wd lo hi g bx tv v1 vr va vb y p yr ya yb) (k : Kp (fun k => v1.ownBlock = some k) wd wf) : Mid w wf lo hi g bx tv v1 vr va vb y p yr ya yb := by
  have keep : ∀ {b : Nat} {x : Obj}, wd.heap[b]? = some x → w.heap.size ≤ b → b ≤ bx → wf.heap[b]? = some x := fun g hb hb2 => (k.block _ (heap_lt g) (fun e => by
    rcases h.old _ e with q | q
    · have := h.tl _ q; omega
    · omega)).trans g
  have q := h.hbx
  refine ⟨⟨k.os.trans h.N.os, k.tape.trans h.N.tape, k.output.trans h.N.output, Nat.le_trans h.N.size k.size, fun b hb hs => (k.block b (Nat.lt_of_lt_of_le hb h.N.size) (fun e => ?_)).trans (h.N.block b hb hs)⟩, h.hbx, h.hh, h.tl, h.off, h.old, keep h.x (by omega) (Nat.le_refl _), keep h.s (by omega) (by omega), keep h.r (by omega) (by omega), h.o.kp k h.off⟩
  rcases h.old _ e with q | q
  · exact hs q
  · omega
theorem kp_on {w w1 w2 : World} {S T : Nat → Prop} (h : Kp S w w1) (k : Kp T w1 w2) (hs : ∀ i, i < w.heap.size → T i → S i) : Kp S w w2 :=
  ⟨k.os.trans h.os, k.tape.trans h.tape, k.output.trans h.output, Nat.le_trans h.size k.size, fun i hi hn => (k.block i (Nat.lt_of_lt_of_le hi h.size) (fun t => hn (hs i hi t))).trans (h.block i hi hn)⟩
theorem ends {w we wz : World} {lo hi g bx base : Nat} {tv v1 v vr va vb : Value} {y : Ins} {p : Int} {yr ya : List Int} {yb : List (List Int)} {s : Ms} {l : List Ev} (h : Mid w we lo hi g bx tv v1 vr va vb y p yr ya yb) (h2 : Mid2 we wz lo hi g base v1 v vr va vb s l) :
    wz.heap[bx]? = some (.cells #[.int .i64 y.op, .int .i64 y.a, .int .i64 y.b, .int .i64 y.c, .int .i64 y.d] 42) ∧ wz.heap[w.heap.size + 1]? = some (.cells #[.int .i64 p, vr, va, vb] 38) ∧ wz.heap[w.heap.size + 1 + 1]? = some (.cells #[.int .i64 0, .slice none 0 0, .slice none 0 0, .slice none 0 0] 38) := by
  have q := h.hbx
  have q2 := h.hh
  have keep : ∀ {b : Nat} {x : Obj}, we.heap[b]? = some x → w.heap.size ≤ b → b ≤ bx → wz.heap[b]? = some x := fun g hb hb2 => (h2.k.block _ (heap_lt g) (fun e => by
    rcases e with e | e
    · omega
    · rcases h.old _ e with r | r
      · have := h.tl _ r; omega
      · omega)).trans g
  exact ⟨keep h.x (by omega) (Nat.le_refl _), keep h.s (by omega) (by omega), keep h.r (by omega) (by omega)⟩
theorem post {w we wz w3 : World} {lo hi g bx base : Nat} {tv v1 v vr va vb u : Value} {vs : List Value} {y : Ins} {p : Int} {yr ya : List Int} {yb : List (List Int)} {s : Ms} {l : List Ev} (h : Mid w we lo hi g bx tv v1 vr va vb y p yr ya yb) (h2 : Mid2 we wz lo hi g base v1 v vr va vb s l) (hn : New wz w3)
    : PostX w lo hi g base tv vr va vb s l (.returned (.tuple #[.agg #[.int .i64 s.pc, vr, va, vb], v])) (setMany (w3.setCell ⟨w.heap.size + 1, 0, none⟩ u) (w.heap.size + 1 + 1) 0 vs) := by
  have q := h.hbx
  have q2 := h.hh
  have q3 := h.N.size
  have q4 := h2.k.size
  have q5 := hn.size
  have qx := heap_lt h.x
  have k1 : Kp (fun k => k = w.heap.size + 1 ∨ k = w.heap.size + 1 + 1) w3 (setMany (w3.setCell ⟨w.heap.size + 1, 0, none⟩ u) (w.heap.size + 1 + 1) 0 vs) :=
    ((Kp.refl (fun k => k = w.heap.size + 1 ∨ k = w.heap.size + 1 + 1) w3).setCell (p := ⟨w.heap.size + 1, 0, none⟩) (.inl (.inl rfl)) _).trans ((setMany_kp _ _ _ _).mono fun k _ e => .inr e)
  have k2 : Kp (fun k => k = w.heap.size + 1 ∨ k = w.heap.size + 1 + 1) wz (setMany (w3.setCell ⟨w.heap.size + 1, 0, none⟩ u) (w.heap.size + 1 + 1) 0 vs) := (hn.mono fun _ _ f => f.elim).trans k1
  refine ⟨v, rfl, kp_on (kp_on (h.N.mono fun _ _ e => .inr e) h2.k fun i hi e => ?_) k2 fun i hi e => ?_, h2.o.kp k2 fun b e => .inr (by omega), h2.e.kp k2 fun b hb e => ?_, fun b hb => ?_⟩
  · rcases e with e | e
    · exact .inl e
    · rcases h.old _ e with r | r
      · exact .inr r
      · omega
  · omega
  · rcases h2.a with r | r
    · rcases h.old b (r ▸ hb) with t | t
      · have := h.tl b t; omega
      · omega
    · have := r b hb; omega
  · rcases h2.a with r | r
    · rcases h.old b (r ▸ hb) with t | t
      · exact .inl t
      · exact .inr (by omega)
    · have := r b hb; exact .inr (by omega)
set_option maxHeartbeats 2000000 in
theorem l6Move (w : World) (lo hi p : Nat) (vr : Value) (r : List Int) (y : Ins) {nv na nl : Nat} (sr : IntsR w lo hi vr r) (hh : hi ≤ w.heap.size) (hr : r.length = 14) (hv : View nv na nl y) (hp : p ≤ 1000000) :
    Calls Try.prog 87 #[.agg #[.int .i64 y.op, .int .i64 y.a, .int .i64 y.b, .int .i64 y.c, .int .i64 y.d], vr, .int .i64 p] w fun e w' => e = .returned (.int .i64 (mv y p r)) ∧ New w w' := by
  obtain ⟨a1, d1, rfl, l1⟩ := sr.len
  have rl1 : 14 ≤ r.length := Nat.le_of_eq hr.symm
  have hrh := Lib.hid hr
  have srh := Lib.hid sr
  clear hr sr
  cases hv with
  | const a b ha hb hb2 =>
    have hm := Lib.hid (show mv ⟨1, a, b, 0, 0⟩ p r = p + 1 by simp [mv])
    go_enter Try.func87, Try.ntmps87
    go_wp2
    go_ret
    rw [hm.out]
    exact ⟨rfl, (Kp.refl _ _).alloc _⟩
  | get a b ha hb =>
    have hm := Lib.hid (show mv ⟨2, a, b, 0, 0⟩ p r = p + 1 by simp [mv])
    go_enter Try.func87, Try.ntmps87
    go_wp2
    go_ret
    rw [hm.out]
    exact ⟨rfl, (Kp.refl _ _).alloc _⟩
  | put a b ha hb =>
    have hm := Lib.hid (show mv ⟨3, a, b, 0, 0⟩ p r = p + 1 by simp [mv])
    go_enter Try.func87, Try.ntmps87
    go_wp2
    go_ret
    rw [hm.out]
    exact ⟨rfl, (Kp.refl _ _).alloc _⟩
  | load a b c ha hb hc =>
    have hm := Lib.hid (show mv ⟨4, a, b, c, 0⟩ p r = p + 1 by simp [mv])
    go_enter Try.func87, Try.ntmps87
    go_wp2
    go_ret
    rw [hm.out]
    exact ⟨rfl, (Kp.refl _ _).alloc _⟩
  | store a b c ha hb hc =>
    have hm := Lib.hid (show mv ⟨5, a, b, c, 0⟩ p r = p + 1 by simp [mv])
    go_enter Try.func87, Try.ntmps87
    go_wp2
    go_ret
    rw [hm.out]
    exact ⟨rfl, (Kp.refl _ _).alloc _⟩
  | bin a b c d ha hb hb2 hc hd =>
    have hm := Lib.hid (show mv ⟨6, a, b, c, d⟩ p r = p + 1 by simp [mv])
    go_enter Try.func87, Try.ntmps87
    go_wp2
    go_ret
    rw [hm.out]
    exact ⟨rfl, (Kp.refl _ _).alloc _⟩
  | sel a b c d ha hb hc hd =>
    have hm := Lib.hid (show mv ⟨7, a, b, c, d⟩ p r = p + 1 by simp [mv])
    go_enter Try.func87, Try.ntmps87
    go_wp2
    go_ret
    rw [hm.out]
    exact ⟨rfl, (Kp.refl _ _).alloc _⟩
  | jump a ha =>
    have hm := Lib.hid (show mv ⟨8, a, 0, 0, 0⟩ p r = a by simp [mv])
    go_enter Try.func87, Try.ntmps87
    go_wp2
    go_ret
    rw [hm.out]
    exact ⟨rfl, (Kp.refl _ _).alloc _⟩
  | zero a b ha hb =>
    obtain ⟨b0, o0, rfl, g1, g2, ca⟩ := srh.out.at a (show a < r.length by omega)
    have gb := cell_lt ca
    have ea := at0_nat (show a < r.length by omega)
    by_cases h0 : r[a] = 0
    · have hm := Lib.hid (show mv ⟨9, a, b, 0, 0⟩ p r = b by simp [mv, ea, h0])
      go_enter Try.func87, Try.ntmps87
      go_wp2
      go_ret
      rw [hm.out]
      exact ⟨rfl, (Kp.refl _ _).alloc _⟩
    · have hm := Lib.hid (show mv ⟨9, a, b, 0, 0⟩ p r = p + 1 by simp [mv, ea, h0])
      go_enter Try.func87, Try.ntmps87
      go_wp2
      go_ret
      rw [hm.out]
      exact ⟨rfl, (Kp.refl _ _).alloc _⟩
  | loop a b ha hb =>
    obtain ⟨b0, o0, rfl, g1, g2, ca⟩ := srh.out.at a (show a < r.length by omega)
    have gb := cell_lt ca
    have ea := at0_nat (show a < r.length by omega)
    by_cases h0 : r[a] = 0
    · have hm := Lib.hid (show mv ⟨10, a, b, 0, 0⟩ p r = p + 1 by simp [mv, ea, h0])
      go_enter Try.func87, Try.ntmps87
      go_wp2
      go_ret
      rw [hm.out]
      exact ⟨rfl, (Kp.refl _ _).alloc _⟩
    · have hm := Lib.hid (show mv ⟨10, a, b, 0, 0⟩ p r = b by simp [mv, ea, h0])
      go_enter Try.func87, Try.ntmps87
      go_wp2
      go_ret
      rw [hm.out]
      exact ⟨rfl, (Kp.refl _ _).alloc _⟩
  | rel a ha =>
    have hm := Lib.hid (show mv ⟨11, a, 0, 0, 0⟩ p r = p + 1 by simp [mv])
    go_enter Try.func87, Try.ntmps87
    go_wp2
    go_ret
    rw [hm.out]
    exact ⟨rfl, (Kp.refl _ _).alloc _⟩
  | fence =>
    have hm := Lib.hid (show mv ⟨12, 0, 0, 0, 0⟩ p r = p + 1 by simp [mv])
    go_enter Try.func87, Try.ntmps87
    go_wp2
    go_ret
    rw [hm.out]
    exact ⟨rfl, (Kp.refl _ _).alloc _⟩
  | halt =>
    have hm := Lib.hid (show mv ⟨13, 0, 0, 0, 0⟩ p r = p by simp [mv])
    go_enter Try.func87, Try.ntmps87
    go_wp2
    go_ret
    rw [hm.out]
    exact ⟨rfl, (Kp.refl _ _).alloc _⟩

set_option maxHeartbeats 8000000 in
set_option maxRecDepth 100000 in
theorem exec (w : World) (lo hi g lc hc p base : Nat) (ta tb tc vr va vb tv : Value) (xa xb yr ya : List Int) (x : List Ins) (yb : List (List Int)) (tr : List Ev) (sa : IntsR w lc hc ta xa) (sb : IntsR w lc hc tb xb) (s : InssR w lc hc tc x) (h1 : hc ≤ w.heap.size)
    (hO : MachH w lo hi g vr va vb yr ya yb) (hh : hi ≤ w.heap.size) (hT : OwnF 2 encE w base 68 tv tr) (hoff : ∀ b, tv.ownBlock = some b → b < lo ∨ hi ≤ b ∨ b = g) (hbase : base ≤ w.heap.size) (htr : tr.length ≤ 1048576) (hp : p < x.length) (hx : x.length ≤ 400) (hv : View ya.length yb.length x.length x[p]) (hk : Okm ya.length yb.length x.length ⟨p, yr, ya, yb⟩) (hn : yb.length ≤ 100) :
    Calls Try.prog 55 #[.agg #[ta, tb, tc], .agg #[.int .i64 p, vr, va, vb], tv] w (PostX w lo hi g base tv vr va vb (eff x[p] ⟨p, yr, ya, yb⟩).1 (tr ++ (5, (p : Int)) :: (eff x[p] ⟨p, yr, ya, yb⟩).2)) := by
  obtain ⟨a1, d1, rfl, l1⟩ := sa.len
  obtain ⟨a2, d2, rfl, l2⟩ := sb.len
  obtain ⟨a3, d3, rfl, l3⟩ := s.len
  obtain ⟨⟨a4, d4, rfl⟩, ⟨a5, d5, rfl⟩, a6, d6, rfl⟩ := hO.toR.lens
  obtain ⟨bc, oc, rfl, hbc1, hbc2, c0, c1, c2, c3, c4⟩ := s.at p hp
  obtain ⟨y, hy⟩ : ∃ y, x[p] = y := ⟨_, rfl⟩
  rw [hy] at c0 c1 c2 c3 c4 hv
  rw [hy]
  have hkh := Lib.hid hk
  have hvh := Lib.hid hv
  have hOh := Lib.hid hO
  have hTh := Lib.hid hT
  have hoffh := Lib.hid hoff
  clear hO s sa sb hk hv hy hT hoff
  go_enter Try.func55, Try.ntmps55
  go_upto_region 1 with fail
  have N0 : New w (((w.alloc (.cells #[.slice a1 xa.length d1, .slice a2 xb.length d2, .slice (some ⟨bc, oc, none⟩) x.length d3] 26)).alloc (.cells #[.int .i64 p, .slice a4 yr.length d4, .slice a5 ya.length d5, .slice a6 yb.length d6] 38)).alloc (.cells #[.int .i64 0, .slice none 0 0, .slice none 0 0, .slice none 0 0] 38)) := ((Kp.refl _ _).alloc _).alloc _ |>.alloc _
  have bC : (((w.alloc (.cells #[.slice a1 xa.length d1, .slice a2 xb.length d2, .slice (some ⟨bc, oc, none⟩) x.length d3] 26)).alloc (.cells #[.int .i64 p, .slice a4 yr.length d4, .slice a5 ya.length d5, .slice a6 yb.length d6] 38)).alloc (.cells #[.int .i64 0, .slice none 0 0, .slice none 0 0, .slice none 0 0] 38)).heap[w.heap.size]? = some (.cells #[.slice a1 xa.length d1, .slice a2 xb.length d2, .slice (some ⟨bc, oc, none⟩) x.length d3] 26) := heap_old (heap_old (alloc_heap _ _))
  have bS : (((w.alloc (.cells #[.slice a1 xa.length d1, .slice a2 xb.length d2, .slice (some ⟨bc, oc, none⟩) x.length d3] 26)).alloc (.cells #[.int .i64 p, .slice a4 yr.length d4, .slice a5 ya.length d5, .slice a6 yb.length d6] 38)).alloc (.cells #[.int .i64 0, .slice none 0 0, .slice none 0 0, .slice none 0 0] 38)).heap[w.heap.size + 1]? = some (.cells #[.int .i64 p, .slice a4 yr.length d4, .slice a5 ya.length d5, .slice a6 yb.length d6] 38) := heap_old (heap_at (by simp))
  have bR : (((w.alloc (.cells #[.slice a1 xa.length d1, .slice a2 xb.length d2, .slice (some ⟨bc, oc, none⟩) x.length d3] 26)).alloc (.cells #[.int .i64 p, .slice a4 yr.length d4, .slice a5 ya.length d5, .slice a6 yb.length d6] 38)).alloc (.cells #[.int .i64 0, .slice none 0 0, .slice none 0 0, .slice none 0 0] 38)).heap[w.heap.size + 1 + 1]? = some (.cells #[.int .i64 0, .slice none 0 0, .slice none 0 0, .slice none 0 0] 38) := heap_at (by simp)
  have z0 : w.heap.size + 1 + 1 < (((w.alloc (.cells #[.slice a1 xa.length d1, .slice a2 xb.length d2, .slice (some ⟨bc, oc, none⟩) x.length d3] 26)).alloc (.cells #[.int .i64 p, .slice a4 yr.length d4, .slice a5 ya.length d5, .slice a6 yb.length d6] 38)).alloc (.cells #[.int .i64 0, .slice none 0 0, .slice none 0 0, .slice none 0 0] 38)).heap.size := by simp
  generalize (((w.alloc (.cells #[.slice a1 xa.length d1, .slice a2 xb.length d2, .slice (some ⟨bc, oc, none⟩) x.length d3] 26)).alloc (.cells #[.int .i64 p, .slice a4 yr.length d4, .slice a5 ya.length d5, .slice a6 yb.length d6] 38)).alloc (.cells #[.int .i64 0, .slice none 0 0, .slice none 0 0, .slice none 0 0] 38)) = w0 at *
  have e0 := (N0.cell (cell_lt c0) (fun f => f) _).trans c0
  have e1 := (N0.cell (cell_lt c1) (fun f => f) _).trans c1
  have e2 := (N0.cell (cell_lt c2) (fun f => f) _).trans c2
  have e3 := (N0.cell (cell_lt c3) (fun f => f) _).trans c3
  have e4 := (N0.cell (cell_lt c4) (fun f => f) _).trans c4
  clear c0 c1 c2 c3 c4
  have k2 := cell_of_heap bC 2
  obtain ⟨m0, m1⟩ := cells2 bS
  have cl := cell_lt e0
  have sl := heap_lt bS
  have kl := heap_lt bC
  go_upto_region 3 with fail
  clear e0 e1 e2 e3 e4 k2 m0 m1 cl sl kl
  have kX : New w0 (w0.alloc (.cells #[.int .i64 y.op, .int .i64 y.a, .int .i64 y.b, .int .i64 y.c, .int .i64 y.d] 42)) := (Kp.refl _ _).alloc _
  have bX : (w0.alloc (.cells #[.int .i64 y.op, .int .i64 y.a, .int .i64 y.b, .int .i64 y.c, .int .i64 y.d] 42)).heap[w0.heap.size]? = some (.cells #[.int .i64 y.op, .int .i64 y.a, .int .i64 y.b, .int .i64 y.c, .int .i64 y.d] 42) := alloc_heap _ _
  have N1 := N0.trans kX
  have bS1 := heap_new kX bS
  have bR1 := heap_new kX bR
  have z1 : w0.heap.size < (w0.alloc (.cells #[.int .i64 y.op, .int .i64 y.a, .int .i64 y.b, .int .i64 y.c, .int .i64 y.d] 42)).heap.size := by simp
  obtain ⟨bx, hbx⟩ : ∃ b, b = w0.heap.size := ⟨_, rfl⟩
  rw [← hbx] at bX z1 ⊢
  have hbx2 : w.heap.size + 1 + 1 < bx := by omega
  generalize w0.alloc (.cells #[.int .i64 y.op, .int .i64 y.a, .int .i64 y.b, .int .i64 y.c, .int .i64 y.d] 42) = w1 at *
  clear bS bR N0 kX z0 hbx bC
  have hT1 := hTh.out.new N1
  have hTl := hTh.out.lt
  have m0 := cell_of_heap bS1 0
  have sl := heap_lt bS1
  have hzN := N1.size
  go_cut [2] (fun p2 wd => ∃ v, v = p2 ∧ Kp (fun k => tv.ownBlock = some k) w1 wd ∧ OwnF 2 encE wd base 68 v (tr ++ [(5, (p : Int))]) ∧ (v.ownBlock = tv.ownBlock ∨ ∀ b, v.ownBlock = some b → w1.heap.size ≤ b))
  case first =>
    go_wp2_with (at_builtin; refine wpList_pushesN rfl _ _ 32 rfl base 68 _ 16 Try.underlying32 infoE rfl (by decide) _ tr rfl (hT1.new ((Kp.refl _ _).alloc _)) _ [(5, (p : Int))] rfl (one_src (Nat.le_refl _) (by decide) (newsE _ _ _ _)) (fun q _ => oneE q) (by simp; omega) (by simp; omega) (size_alloc_le (by omega) _) ?_; intro v1 w2 hv1 hk1 ha1)
    go_meet
    exact ⟨v1, rfl, ((Kp.refl _ _).alloc _).trans hk1, hv1, ha1.imp id fun e b hb => by rw [e] at hb; cases hb; simp⟩
  case rest =>
  obtain ⟨v1, rfl, kd, hv1, ha1⟩ := hcut
  clear m0 hT1 sl
  have M2 := mid N1 hbx2 hh (hTl) hoffh.out kd ha1 bX bS1 bR1 hOh.out
  have hv2 := Lib.hid hv1
  have hM := Lib.hid M2
  clear kd hv1 ha1 bX bS1 bR1 N1 M2 hOh hTh hoffh hTl z1
  obtain ⟨we, hwe⟩ : ∃ x, x = wc := ⟨_, rfl⟩
  subst hwe
  have bX := hM.out.x
  have x0 := cell_of_heap bX 0
  have xl := heap_lt bX
  clear bX
  go_upto_block 0 with fail
  clear x0 xl
  go_cut [2] (fun p2 wz => ∃ v, v = p2 ∧ Mid2 we wz lo hi g base v1 v (.slice a4 yr.length d4) (.slice a5 ya.length d5) (.slice a6 yb.length d6) (eff y ⟨p, yr, ya, yb⟩).1 (tr ++ (5, (p : Int)) :: (eff y ⟨p, yr, ya, yb⟩).2))
  case first =>
    have rl1 : 14 ≤ yr.length := Nat.le_of_eq hkh.out.rl.symm
    have rl2 : yr.length ≤ 14 := Nat.le_of_eq hkh.out.rl
    have hv := hvh.out
    clear hvh
    cases hv with
    | const a z ha hz hz2 =>
      as_aux_lemma =>
        have hO := hM.out.o
        have bX := hM.out.x
        have bS := hM.out.s
        have q1 := hM.out.hbx
        have q2 := hM.out.N.size
        have hh2 : hi ≤ we.heap.size := by have := hM.out.hh; omega
        dsimp only at bX
        obtain ⟨x0, x1, x2, x3, x4⟩ := cells5 bX
        obtain ⟨m0, m1, m2, m3⟩ := cells4 bS
        have xl := heap_lt bX
        obtain ⟨br, hbr, hr1, hr2, hr9, hrc, hrf, hset⟩ := hO.regs (by omega)
        subst hbr
        have rc := Lib.hid hrc
        have rf := Lib.hid hrf
        have rs := Lib.hid hset
        have hOc := Lib.hid hO
        have rb := cell_lt (hrc 0 (by omega))
        clear hO hrc hrf hset bX bS
        have he := Lib.hid (show eff ⟨1, a, z, 0, 0⟩ ⟨p, yr, ya, yb⟩ = (⟨p + 1, yr.set a z, ya, yb⟩, []) by simp [eff, put0_nat])
        have ca := rc.out a (by omega)
        have fa := rf.out a
        go_wp2
        go_meet
        rw [he.out]
        exact ⟨_, rfl, (Mid2.set (Kp.refl _ _) (.inl rfl) hM.out.off hh2 hv2.out (by omega) (by omega) (by omega) (rs.out a (by omega) z))⟩
    | get a j ha hj =>
      as_aux_lemma =>
        have hO := hM.out.o
        have bX := hM.out.x
        have bS := hM.out.s
        have q1 := hM.out.hbx
        have q2 := hM.out.N.size
        have hh2 : hi ≤ we.heap.size := by have := hM.out.hh; omega
        dsimp only at bX
        obtain ⟨x0, x1, x2, x3, x4⟩ := cells5 bX
        obtain ⟨m0, m1, m2, m3⟩ := cells4 bS
        have xl := heap_lt bX
        obtain ⟨br, hbr, hr1, hr2, hr9, hrc, hrf, hset⟩ := hO.regs (by omega)
        subst hbr
        have rc := Lib.hid hrc
        have rf := Lib.hid hrf
        have rs := Lib.hid hset
        have hOc := Lib.hid hO
        have rb := cell_lt (hrc 0 (by omega))
        clear hO hrc hrf hset bX bS
        have he := Lib.hid (show eff ⟨2, a, j, 0, 0⟩ ⟨p, yr, ya, yb⟩ = (⟨p + 1, yr.set a (ya[j]), ya, yb⟩, []) by simp [eff, put0_nat, at0_nat hj])
        have ca := rc.out a (by omega)
        have fa := rf.out a
        obtain ⟨bv, rfl, hv1_, hv2_, hv9_, vc, vf, vs⟩ := hOc.out.vals (by omega)
        have cj := vc j hj
        have vb := cell_lt cj
        clear vc vf vs
        go_wp2_with fail
        go_region
        all_goals
          go_wp2
          go_meet
          rw [he.out]
          exact ⟨_, rfl, Mid2.drew (Mid2.set (Kp.refl _ _) (.inl rfl) hM.out.off hh2 hv2.out (by omega) (by omega) (by omega) (rs.out a (by omega) _))⟩
    | put j c hj hc =>
      as_aux_lemma =>
        have hO := hM.out.o
        have bX := hM.out.x
        have bS := hM.out.s
        have q1 := hM.out.hbx
        have q2 := hM.out.N.size
        have hh2 : hi ≤ we.heap.size := by have := hM.out.hh; omega
        dsimp only at bX
        obtain ⟨x0, x1, x2, x3, x4⟩ := cells5 bX
        obtain ⟨m0, m1, m2, m3⟩ := cells4 bS
        have xl := heap_lt bX
        obtain ⟨br, hbr, hr1, hr2, hr9, hrc, hrf, hset⟩ := hO.regs (by omega)
        subst hbr
        have rc := Lib.hid hrc
        have rf := Lib.hid hrf
        have rs := Lib.hid hset
        have hOc := Lib.hid hO
        have rb := cell_lt (hrc 0 (by omega))
        clear hO hrc hrf hset bX bS
        have he := Lib.hid (show eff ⟨3, j, c, 0, 0⟩ ⟨p, yr, ya, yb⟩ = (⟨p + 1, yr, ya.set j (yr[c]), yb⟩, []) by simp [eff, put0_nat, at0_nat (show c < yr.length by omega)])
        have cc := rc.out c (by omega)
        obtain ⟨bv, rfl, hv1_, hv2_, hv9_, vc, vf, vs⟩ := hOc.out.vals (by omega)
        have cj := vc j hj
        have vb := cell_lt cj
        have fj := vf j
        have vs2 := Lib.hid vs
        clear vc vf vs
        go_wp2_with fail
        go_region
        all_goals
          go_wp2
          go_meet
          rw [he.out]
          exact ⟨_, rfl, Mid2.drew (Mid2.set (Kp.refl _ _) (.inl rfl) hM.out.off hh2 hv2.out (by omega) (by omega) (by omega) (vs2.out j hj _))⟩
    | load a j c ha hj hc =>
      as_aux_lemma =>
        have hO := hM.out.o
        have bX := hM.out.x
        have bS := hM.out.s
        have q1 := hM.out.hbx
        have q2 := hM.out.N.size
        have hh2 : hi ≤ we.heap.size := by have := hM.out.hh; omega
        dsimp only at bX
        obtain ⟨x0, x1, x2, x3, x4⟩ := cells5 bX
        obtain ⟨m0, m1, m2, m3⟩ := cells4 bS
        have xl := heap_lt bX
        obtain ⟨br, hbr, hr1, hr2, hr9, hrc, hrf, hset⟩ := hO.regs (by omega)
        subst hbr
        have rc := Lib.hid hrc
        have rf := Lib.hid hrf
        have rs := Lib.hid hset
        have hOc := Lib.hid hO
        have rb := cell_lt (hrc 0 (by omega))
        clear hO hrc hrf hset bX bS
        have gc : 0 ≤ yr[c] ∧ yr[c] ≤ 255 := hkh.out.rv c (show c < yr.length by omega)
        obtain ⟨n, hn, hn2⟩ : ∃ n : Nat, yr[c] = n ∧ n ≤ 255 := ⟨yr[c].toNat, by omega, by omega⟩
        have cc := rc.out c (by omega)
        rw [hn] at cc
        have ln1 : c < yr.length := by omega
        go_upto_region 12 with fail
        go_cut [2] (fun p2 wf => ∃ v, v = p2 ∧ Kp (fun k => v1.ownBlock = some k) we wf ∧ OwnF 2 encE wf base 68 v (tr ++ ([(5, (p : Int))] ++ [(2, addr j n)])) ∧ (v.ownBlock = v1.ownBlock ∨ ∀ b, v.ownBlock = some b → we.heap.size ≤ b))
        case first =>
          refine wp_region_held_drew (S := fun w' => w'.cell? ⟨bx, 2, none⟩ = some (.int .i64 j) ∧ w'.cell? ⟨bx, 3, none⟩ = some (.int .i64 c) ∧ w'.cell? ⟨br, c, none⟩ = some (.int .i64 n)) (by kernel_rfl) ?_ (fun hHeld => ?_)
          · exact ⟨x2, x3, cc⟩
          refine HT 0 rfl ?_
          try simp only [AP]
          refine HT 1 rfl ?_
          try simp only [AP]
          refine HT 2 rfl ?_
          try simp only [AP]
          refine HT 3 rfl ?_
          try simp only [AP]
          refine HT 4 rfl ?_
          try simp only [AP]
          refine HT 5 rfl ?_
          try simp only [AP]
          refine HT 6 rfl ?_
          try simp only [AP]
          refine HT 7 rfl ?_
          try simp only [AP]
          refine HR 8 rfl fun K hK => ?_
          go_simp
          refine (OpV.l3Address _ _ _ (by omega) (by omega) (by omega) (by omega)).mono ?_
          rintro e w1 ⟨rfl, rfl⟩
          refine hK.out _ _ ?_ (fun hHeld2 => ?_)
          · exact ⟨x2, x3, cc⟩
          clear hK K hHeld
          have hHeld := hHeld2
          clear hHeld2
          try simp only [AP]
          refine HT 9 rfl ?_
          try simp only [AP]
          refine HR 10 rfl fun K hK => ?_
          go_simp
          refine hK.out _ _ ?_ (fun hHeld2 => ?_)
          · exact ⟨(World.cell?_alloc_lt _ _ _ (cell_lt x2)).trans x2, (World.cell?_alloc_lt _ _ _ (cell_lt x3)).trans x3, (World.cell?_alloc_lt _ _ _ (cell_lt cc)).trans cc⟩
          clear hK K hHeld
          have hHeld := hHeld2
          clear hHeld2
          try simp only [AP]
          refine HR 11 rfl fun K hK => ?_
          refine step_pushes rfl (.tmp 63) (.tmp 73) 32 rfl base 68 _ _ Try.underlying32 infoE rfl (by decide) _ (tr ++ [(5, (p : Int))]) rfl ((hv2.out.new (Kp.refl _ _).drew).new ((Kp.refl _ _).alloc _)) _ [(2, addr j n)] rfl (one_src (Nat.le_refl _) (by decide) (newsE _ _ _ _)) (fun q _ => oneE q) ?_ ?_ ?_ ?_
          · simp; omega
          · simp; omega
          · exact size_alloc_le (by show base ≤ we.heap.size; omega) _
          intro v2 w2 hv3 hk3 ha3
          have hkk : Kp (fun k => v1.ownBlock = some k) we w2 := ((Kp.refl _ _).drew.alloc _).trans hk3
          have hne : v1.ownBlock ≠ some bx ∧ v1.ownBlock ≠ some br := ⟨fun e => by
              rcases hM.out.old _ e with q | q
              · have := hM.out.tl _ q; omega
              · omega, fun e => by have := hM.out.off _ e; omega⟩
          refine hK.out _ _ ?_ (fun hHeld2 => ?_)
          · exact ⟨(hkk.cell (b := bx) xl hne.1 _).trans x2, (hkk.cell (b := bx) xl hne.1 _).trans x3, (hkk.cell (b := br) rb hne.2 _).trans cc⟩
          clear hK K hHeld
          have hHeld := hHeld2
          clear hHeld2
          try simp only [AP]
          refine HT 12 rfl ?_
          try simp only [AP]
          refine wpAnyH_done (by kernel_rfl) ?_ _
          go_wp2
          go_meet
          refine ⟨v2, rfl, hkk, ?_, ha3.imp id fun e b hb => by rw [e] at hb; cases hb; exact size_alloc_le (w := we.drew) (Nat.le_refl _) _⟩
          rw [List.append_assoc] at hv3
          exact hv3
        case rest =>
        obtain ⟨v2, rfl, kf, hE2, ha2⟩ := hcut
        have hE3 := Lib.hid hE2
        have ha3 := Lib.hid ha2
        have hkf := Lib.hid kf
        have M3 := hM.out.on kf
        have hM3 := Lib.hid M3
        have zf := kf.size
        clear x0 x1 x2 x3 x4 m0 m1 m2 m3 xl rc rf rs hOc rb cc hE2 ha2 kf M3
        obtain ⟨wg, hwg⟩ : ∃ x, x = wc := ⟨_, rfl⟩
        subst hwg
        have hO := hM3.out.o
        have bX := hM3.out.x
        have bS := hM3.out.s
        have q3 := hM3.out.hbx
        have q4 := hM3.out.N.size
        have hh3 : hi ≤ wg.heap.size := by have := hM3.out.hh; omega
        dsimp only at bX
        obtain ⟨x0, x1, x2, x3, x4⟩ := cells5 bX
        obtain ⟨m0, m1, m2, m3⟩ := cells4 bS
        have xl := heap_lt bX
        obtain ⟨br2, hbr, hr3, hr4, hr8, hrc, hrf, hset⟩ := hO.regs (by omega)
        cases hbr
        have rc := Lib.hid hrc
        have rf := Lib.hid hrf
        have rs := Lib.hid hset
        have hOc := Lib.hid hO
        have rb := cell_lt (hrc 0 (by omega))
        clear hO hrc hrf hset bX bS
        have rl4 : 4 ≤ yb[j].length := Nat.le_of_eq (hkh.out.ar j hj).symm
        have he := Lib.hid (show eff ⟨4, a, j, c, 0⟩ ⟨p, yr, ya, yb⟩ = (⟨p + 1, yr.set a (yb[j][n % 4]), ya, yb⟩, [(2, addr j n)]) by simp [eff, put0_nat, row0_nat hj, at0_nat (show c < yr.length by omega), hn, at0_mod (show n % 4 < yb[j].length by omega)])
        have ca := rc.out a (by omega)
        have fa := rf.out a
        have cc := rc.out c (by omega)
        rw [hn] at cc
        obtain ⟨bo, bi, d7, rfl, hq1, hq2, oc1, hq3, hq4, hq9, qc, qf, qs⟩ := hOc.out.rows j hj (by omega)
        have ci := qc (n % 4) (by omega)
        have ob := cell_lt oc1
        have ib := cell_lt ci
        clear qc qf qs
        go_wp2_with fail
        go_region
        all_goals
          go_wp2
          go_meet
          rw [he.out]
          exact ⟨_, rfl, Mid2.drew (Mid2.set hkf.out ha3.out hM.out.off hh2 hE3.out (by omega) (by omega) (by omega) (rs.out a (by omega) _))⟩
    | store a j c ha hj hc =>
      as_aux_lemma =>
        have hO := hM.out.o
        have bX := hM.out.x
        have bS := hM.out.s
        have q1 := hM.out.hbx
        have q2 := hM.out.N.size
        have hh2 : hi ≤ we.heap.size := by have := hM.out.hh; omega
        dsimp only at bX
        obtain ⟨x0, x1, x2, x3, x4⟩ := cells5 bX
        obtain ⟨m0, m1, m2, m3⟩ := cells4 bS
        have xl := heap_lt bX
        obtain ⟨br, hbr, hr1, hr2, hr9, hrc, hrf, hset⟩ := hO.regs (by omega)
        subst hbr
        have rc := Lib.hid hrc
        have rf := Lib.hid hrf
        have rs := Lib.hid hset
        have hOc := Lib.hid hO
        have rb := cell_lt (hrc 0 (by omega))
        clear hO hrc hrf hset bX bS
        have gj : 0 ≤ yr[j] ∧ yr[j] ≤ 255 := hkh.out.rv j (show j < yr.length by omega)
        obtain ⟨n, hn, hn2⟩ : ∃ n : Nat, yr[j] = n ∧ n ≤ 255 := ⟨yr[j].toNat, by omega, by omega⟩
        have cj := rc.out j (by omega)
        rw [hn] at cj
        have ln1 : j < yr.length := by omega
        go_upto_region 15 with fail
        go_cut [2] (fun p2 wf => ∃ v, v = p2 ∧ Kp (fun k => v1.ownBlock = some k) we wf ∧ OwnF 2 encE wf base 68 v (tr ++ ([(5, (p : Int))] ++ [(3, addr a n)])) ∧ (v.ownBlock = v1.ownBlock ∨ ∀ b, v.ownBlock = some b → we.heap.size ≤ b))
        case first =>
          refine wp_region_held_drew (S := fun w' => w'.cell? ⟨bx, 1, none⟩ = some (.int .i64 a) ∧ w'.cell? ⟨bx, 2, none⟩ = some (.int .i64 j) ∧ w'.cell? ⟨br, j, none⟩ = some (.int .i64 n)) (by kernel_rfl) ?_ (fun hHeld => ?_)
          · exact ⟨x1, x2, cj⟩
          refine HT 0 rfl ?_
          try simp only [AP]
          refine HT 1 rfl ?_
          try simp only [AP]
          refine HT 2 rfl ?_
          try simp only [AP]
          refine HT 3 rfl ?_
          try simp only [AP]
          refine HT 4 rfl ?_
          try simp only [AP]
          refine HT 5 rfl ?_
          try simp only [AP]
          refine HT 6 rfl ?_
          try simp only [AP]
          refine HT 7 rfl ?_
          try simp only [AP]
          refine HR 8 rfl fun K hK => ?_
          go_simp
          refine (OpV.l3Address _ _ _ (by omega) (by omega) (by omega) (by omega)).mono ?_
          rintro e w1 ⟨rfl, rfl⟩
          refine hK.out _ _ ?_ (fun hHeld2 => ?_)
          · exact ⟨x1, x2, cj⟩
          clear hK K hHeld
          have hHeld := hHeld2
          clear hHeld2
          try simp only [AP]
          refine HT 9 rfl ?_
          try simp only [AP]
          refine HR 10 rfl fun K hK => ?_
          go_simp
          refine hK.out _ _ ?_ (fun hHeld2 => ?_)
          · exact ⟨(World.cell?_alloc_lt _ _ _ (cell_lt x1)).trans x1, (World.cell?_alloc_lt _ _ _ (cell_lt x2)).trans x2, (World.cell?_alloc_lt _ _ _ (cell_lt cj)).trans cj⟩
          clear hK K hHeld
          have hHeld := hHeld2
          clear hHeld2
          try simp only [AP]
          refine HR 11 rfl fun K hK => ?_
          refine step_pushes rfl (.tmp 96) (.tmp 106) 32 rfl base 68 _ _ Try.underlying32 infoE rfl (by decide) _ (tr ++ [(5, (p : Int))]) rfl ((hv2.out.new (Kp.refl _ _).drew).new ((Kp.refl _ _).alloc _)) _ [(3, addr a n)] rfl (one_src (Nat.le_refl _) (by decide) (newsE _ _ _ _)) (fun q _ => oneE q) ?_ ?_ ?_ ?_
          · simp; omega
          · simp; omega
          · exact size_alloc_le (by show base ≤ we.heap.size; omega) _
          intro v2 w2 hv3 hk3 ha3
          have hkk : Kp (fun k => v1.ownBlock = some k) we w2 := ((Kp.refl _ _).drew.alloc _).trans hk3
          have hne : v1.ownBlock ≠ some bx ∧ v1.ownBlock ≠ some br := ⟨fun e => by
              rcases hM.out.old _ e with q | q
              · have := hM.out.tl _ q; omega
              · omega, fun e => by have := hM.out.off _ e; omega⟩
          refine hK.out _ _ ?_ (fun hHeld2 => ?_)
          · exact ⟨(hkk.cell (b := bx) xl hne.1 _).trans x1, (hkk.cell (b := bx) xl hne.1 _).trans x2, (hkk.cell (b := br) rb hne.2 _).trans cj⟩
          clear hK K hHeld
          have hHeld := hHeld2
          clear hHeld2
          try simp only [AP]
          refine HT 12 rfl ?_
          try simp only [AP]
          refine wpAnyH_done (by kernel_rfl) ?_ _
          go_wp2
          go_meet
          refine ⟨v2, rfl, hkk, ?_, ha3.imp id fun e b hb => by rw [e] at hb; cases hb; exact size_alloc_le (w := we.drew) (Nat.le_refl _) _⟩
          rw [List.append_assoc] at hv3
          exact hv3
        case rest =>
        obtain ⟨v2, rfl, kf, hE2, ha2⟩ := hcut
        have hE3 := Lib.hid hE2
        have ha3 := Lib.hid ha2
        have hkf := Lib.hid kf
        have M3 := hM.out.on kf
        have hM3 := Lib.hid M3
        have zf := kf.size
        clear x0 x1 x2 x3 x4 m0 m1 m2 m3 xl rc rf rs hOc rb cj hE2 ha2 kf M3
        obtain ⟨wg, hwg⟩ : ∃ x, x = wc := ⟨_, rfl⟩
        subst hwg
        have hO := hM3.out.o
        have bX := hM3.out.x
        have bS := hM3.out.s
        have q3 := hM3.out.hbx
        have q4 := hM3.out.N.size
        have hh3 : hi ≤ wg.heap.size := by have := hM3.out.hh; omega
        dsimp only at bX
        obtain ⟨x0, x1, x2, x3, x4⟩ := cells5 bX
        obtain ⟨m0, m1, m2, m3⟩ := cells4 bS
        have xl := heap_lt bX
        obtain ⟨br2, hbr, hr3, hr4, hr8, hrc, hrf, hset⟩ := hO.regs (by omega)
        cases hbr
        have rc := Lib.hid hrc
        have rf := Lib.hid hrf
        have rs := Lib.hid hset
        have hOc := Lib.hid hO
        have rb := cell_lt (hrc 0 (by omega))
        clear hO hrc hrf hset bX bS
        have rl4 : 4 ≤ yb[a].length := Nat.le_of_eq (hkh.out.ar a ha).symm
        have he := Lib.hid (show eff ⟨5, a, j, c, 0⟩ ⟨p, yr, ya, yb⟩ = (⟨p + 1, yr, ya, yb.set a (yb[a].set (n % 4) (yr[c]))⟩, [(3, addr a n)]) by simp [eff, row0_nat ha, at0_nat (show c < yr.length by omega), at0_nat (show j < yr.length by omega), hn, put0_mod])
        have cc := rc.out c (by omega)
        have cj := rc.out j (by omega)
        rw [hn] at cj
        obtain ⟨bo, bi, d7, rfl, hq1, hq2, oc1, hq3, hq4, hq9, qc, qf, qs⟩ := hOc.out.rows a ha (by omega)
        have ci := qc (n % 4) (by omega)
        have ob := cell_lt oc1
        have ib := cell_lt ci
        have fi := qf (n % 4)
        have qs2 := Lib.hid qs
        clear qc qf qs
        go_wp2_with fail
        go_region
        all_goals
          go_wp2
          go_meet
          rw [he.out]
          exact ⟨_, rfl, Mid2.drew (Mid2.set hkf.out ha3.out hM.out.off hh2 hE3.out (by omega) (by omega) (by omega) (qs2.out (n % 4) (by omega) _))⟩
    | bin a k c d ha hk1 hk2 hc hd =>
      as_aux_lemma =>
        have hO := hM.out.o
        have bX := hM.out.x
        have bS := hM.out.s
        have q1 := hM.out.hbx
        have q2 := hM.out.N.size
        have hh2 : hi ≤ we.heap.size := by have := hM.out.hh; omega
        dsimp only at bX
        obtain ⟨x0, x1, x2, x3, x4⟩ := cells5 bX
        obtain ⟨m0, m1, m2, m3⟩ := cells4 bS
        have xl := heap_lt bX
        obtain ⟨br, hbr, hr1, hr2, hr9, hrc, hrf, hset⟩ := hO.regs (by omega)
        subst hbr
        have rc := Lib.hid hrc
        have rf := Lib.hid hrf
        have rs := Lib.hid hset
        have hOc := Lib.hid hO
        have rb := cell_lt (hrc 0 (by omega))
        clear hO hrc hrf hset bX bS
        have gc : 0 ≤ yr[c] ∧ yr[c] ≤ 255 := hkh.out.rv c (show c < yr.length by omega)
        have gd : 0 ≤ yr[d] ∧ yr[d] ≤ 255 := hkh.out.rv d (show d < yr.length by omega)
        have he := Lib.hid (show eff ⟨6, a, k, c, d⟩ ⟨p, yr, ya, yb⟩ = (⟨p + 1, yr.set a (binV k (yr[c]) (yr[d])), ya, yb⟩, []) by simp [eff, put0_nat, at0_nat (show c < yr.length by omega), at0_nat (show d < yr.length by omega)])
        have ca := rc.out a (by omega)
        have fa := rf.out a
        have cc := rc.out c (by omega)
        have cd := rc.out d (by omega)
        have lc1 : c < yr.length := by omega
        have ld1 : d < yr.length := by omega
        have la1 : a < yr.length := by omega
        go_wp2_with fail
        refine wp_region_tail (k := 17) (S := fun w' => w'.cell? ⟨bx, 1, none⟩ = some (.int .i64 a) ∧ w'.cell? ⟨bx, 2, none⟩ = some (.int .i64 k) ∧ w'.cell? ⟨bx, 3, none⟩ = some (.int .i64 c) ∧ w'.cell? ⟨bx, 4, none⟩ = some (.int .i64 d) ∧ w'.cell? ⟨br, c, none⟩ = some (.int .i64 yr[c]) ∧ w'.cell? ⟨br, d, none⟩ = some (.int .i64 yr[d])) (by kernel_rfl) ?_ (fun hHeld => ?_)
        · exact ⟨x1, x2, x3, x4, cc, cd⟩
        refine AnyK.tw 0 rfl ?_
        try simp only [AP]
        refine AnyK.tw 1 rfl ?_
        try simp only [AP]
        refine AnyK.tk 2 rfl ?_
        try simp only [AP]
        refine AnyK.tw 3 rfl ?_
        try simp only [AP]
        refine AnyK.tk 4 rfl ?_
        try simp only [AP]
        refine AnyK.tw 5 rfl ?_
        try simp only [AP]
        refine AnyK.tw 6 rfl ?_
        try simp only [AP]
        refine AnyK.tk 7 rfl ?_
        try simp only [AP]
        refine AnyK.tw 8 rfl ?_
        try simp only [AP]
        refine AnyK.tk 9 rfl ?_
        try simp only [AP]
        refine AnyK.tw 10 rfl ?_
        try simp only [AP]
        refine AnyK.tw 11 rfl ?_
        try simp only [AP]
        refine AnyK.tk 12 rfl ?_
        try simp only [AP]
        refine AnyK.tw 13 rfl ?_
        try simp only [AP]
        refine AnyK.tk 14 rfl ?_
        try simp only [AP]
        refine AnyK.step (i := 15) (by kernel_rfl) rfl (fun K hK => ?_)
        go_simp
        refine (OpV.l3Bin _ _ _ _ (by omega) (by omega) (by omega) (by omega) (by omega) (by omega)).mono ?_
        rintro e w1 ⟨rfl, rfl⟩
        refine hK.out _ _ ?_ (fun hHeld2 => ?_)
        · exact ⟨x1, x2, x3, x4, cc, cd⟩
        clear hK K hHeld
        have hHeld := hHeld2
        clear hHeld2
        try simp only [AP]
        refine AnyK.tw 16 rfl ?_
        try simp only [AP]
        refine AnyK.last (by kernel_rfl) ?_
        simp only [List.drop_succ_cons, List.drop_zero]
        clear hHeld
        go_wp2
        go_meet
        rw [he.out]
        exact ⟨_, rfl, Mid2.drew (Mid2.set (Kp.refl _ _) (.inl rfl) hM.out.off hh2 hv2.out (by omega) (by omega) (by omega) (rs.out a (by omega) _))⟩
    | sel a j c d ha hj hc hd =>
      as_aux_lemma =>
        have hO := hM.out.o
        have bX := hM.out.x
        have bS := hM.out.s
        have q1 := hM.out.hbx
        have q2 := hM.out.N.size
        have hh2 : hi ≤ we.heap.size := by have := hM.out.hh; omega
        dsimp only at bX
        obtain ⟨x0, x1, x2, x3, x4⟩ := cells5 bX
        obtain ⟨m0, m1, m2, m3⟩ := cells4 bS
        have xl := heap_lt bX
        obtain ⟨br, hbr, hr1, hr2, hr9, hrc, hrf, hset⟩ := hO.regs (by omega)
        subst hbr
        have rc := Lib.hid hrc
        have rf := Lib.hid hrf
        have rs := Lib.hid hset
        have hOc := Lib.hid hO
        have rb := cell_lt (hrc 0 (by omega))
        clear hO hrc hrf hset bX bS
        have ca := rc.out a (by omega)
        have fa := rf.out a
        have cj := rc.out j (by omega)
        have cc := rc.out c (by omega)
        have cd := rc.out d (by omega)
        by_cases h0 : yr[j] = 0
        · have he := Lib.hid (show eff ⟨7, a, j, c, d⟩ ⟨p, yr, ya, yb⟩ = (⟨p + 1, yr.set a (yr[d]), ya, yb⟩, []) by simp [eff, put0_nat, at0_nat (show j < yr.length by omega), at0_nat (show d < yr.length by omega), h0])
          go_wp2
          go_meet
          rw [he.out]
          exact ⟨_, rfl, (Mid2.set (Kp.refl _ _) (.inl rfl) hM.out.off hh2 hv2.out (by omega) (by omega) (by omega) (rs.out a (by omega) _))⟩
        · have he := Lib.hid (show eff ⟨7, a, j, c, d⟩ ⟨p, yr, ya, yb⟩ = (⟨p + 1, yr.set a (yr[c]), ya, yb⟩, []) by simp [eff, put0_nat, at0_nat (show j < yr.length by omega), at0_nat (show c < yr.length by omega), h0])
          go_wp2
          go_meet
          rw [he.out]
          exact ⟨_, rfl, (Mid2.set (Kp.refl _ _) (.inl rfl) hM.out.off hh2 hv2.out (by omega) (by omega) (by omega) (rs.out a (by omega) _))⟩
    | jump a ha =>
      as_aux_lemma =>
        have hO := hM.out.o
        have bX := hM.out.x
        have bS := hM.out.s
        have q1 := hM.out.hbx
        have q2 := hM.out.N.size
        have hh2 : hi ≤ we.heap.size := by have := hM.out.hh; omega
        dsimp only at bX
        obtain ⟨x0, x1, x2, x3, x4⟩ := cells5 bX
        obtain ⟨m0, m1, m2, m3⟩ := cells4 bS
        have xl := heap_lt bX
        obtain ⟨br, hbr, hr1, hr2, hr9, hrc, hrf, hset⟩ := hO.regs (by omega)
        subst hbr
        have rc := Lib.hid hrc
        have rf := Lib.hid hrf
        have rs := Lib.hid hset
        have hOc := Lib.hid hO
        have rb := cell_lt (hrc 0 (by omega))
        clear hO hrc hrf hset bX bS
        have he := Lib.hid (show eff ⟨8, a, 0, 0, 0⟩ ⟨p, yr, ya, yb⟩ = (⟨a, yr, ya, yb⟩, []) by simp [eff])
        go_wp2
        go_meet
        rw [he.out]
        exact ⟨_, rfl, Mid2.same hOc.out hv2.out⟩
    | zero a j ha hj =>
      as_aux_lemma =>
        have hO := hM.out.o
        have bX := hM.out.x
        have bS := hM.out.s
        have q1 := hM.out.hbx
        have q2 := hM.out.N.size
        have hh2 : hi ≤ we.heap.size := by have := hM.out.hh; omega
        dsimp only at bX
        obtain ⟨x0, x1, x2, x3, x4⟩ := cells5 bX
        obtain ⟨m0, m1, m2, m3⟩ := cells4 bS
        have xl := heap_lt bX
        obtain ⟨br, hbr, hr1, hr2, hr9, hrc, hrf, hset⟩ := hO.regs (by omega)
        subst hbr
        have rc := Lib.hid hrc
        have rf := Lib.hid hrf
        have rs := Lib.hid hset
        have hOc := Lib.hid hO
        have rb := cell_lt (hrc 0 (by omega))
        clear hO hrc hrf hset bX bS
        by_cases h0 : yr[a] = 0
        · have he := Lib.hid (show eff ⟨9, a, j, 0, 0⟩ ⟨p, yr, ya, yb⟩ = (⟨j, yr, ya, yb⟩, []) by simp [eff, at0_nat (show a < yr.length by omega), h0])
          go_wp2
          go_meet
          rw [he.out]
          exact ⟨_, rfl, Mid2.same hOc.out hv2.out⟩
        · have he := Lib.hid (show eff ⟨9, a, j, 0, 0⟩ ⟨p, yr, ya, yb⟩ = (⟨p + 1, yr, ya, yb⟩, []) by simp [eff, at0_nat (show a < yr.length by omega), h0])
          go_wp2
          go_meet
          rw [he.out]
          exact ⟨_, rfl, Mid2.same hOc.out hv2.out⟩
    | loop a j ha hj =>
      as_aux_lemma =>
        have hO := hM.out.o
        have bX := hM.out.x
        have bS := hM.out.s
        have q1 := hM.out.hbx
        have q2 := hM.out.N.size
        have hh2 : hi ≤ we.heap.size := by have := hM.out.hh; omega
        dsimp only at bX
        obtain ⟨x0, x1, x2, x3, x4⟩ := cells5 bX
        obtain ⟨m0, m1, m2, m3⟩ := cells4 bS
        have xl := heap_lt bX
        obtain ⟨br, hbr, hr1, hr2, hr9, hrc, hrf, hset⟩ := hO.regs (by omega)
        subst hbr
        have rc := Lib.hid hrc
        have rf := Lib.hid hrf
        have rs := Lib.hid hset
        have hOc := Lib.hid hO
        have rb := cell_lt (hrc 0 (by omega))
        clear hO hrc hrf hset bX bS
        have ga : 0 ≤ yr[a] ∧ yr[a] ≤ 255 := hkh.out.rv a (show a < yr.length by omega)
        have ca := rc.out a (by omega)
        have fa := rf.out a
        by_cases h0 : (yr[a] + 255) % 256 = 0
        · have he := Lib.hid (show eff ⟨10, a, j, 0, 0⟩ ⟨p, yr, ya, yb⟩ = (⟨p + 1, yr.set a (0), ya, yb⟩, []) by simp [eff, put0_nat, at0_nat (show a < yr.length by omega), h0])
          go_wp2_with fail
          go_region
          all_goals
            go_wp2
            go_meet
            rw [he.out]
            exact ⟨_, rfl, Mid2.drew (Mid2.set (Kp.refl _ _) (.inl rfl) hM.out.off hh2 hv2.out (by omega) (by omega) (by omega) (rs.out a (by omega) _))⟩
        · have he := Lib.hid (show eff ⟨10, a, j, 0, 0⟩ ⟨p, yr, ya, yb⟩ = (⟨j, yr.set a ((yr[a] + 255) % 256), ya, yb⟩, []) by simp [eff, put0_nat, at0_nat (show a < yr.length by omega), h0])
          go_wp2_with fail
          go_region
          all_goals
            go_wp2
            go_meet
            rw [he.out]
            exact ⟨_, rfl, Mid2.drew (Mid2.set (Kp.refl _ _) (.inl rfl) hM.out.off hh2 hv2.out (by omega) (by omega) (by omega) (rs.out a (by omega) _))⟩
    | rel a ha =>
      as_aux_lemma =>
        have hO := hM.out.o
        have bX := hM.out.x
        have bS := hM.out.s
        have q1 := hM.out.hbx
        have q2 := hM.out.N.size
        have hh2 : hi ≤ we.heap.size := by have := hM.out.hh; omega
        dsimp only at bX
        obtain ⟨x0, x1, x2, x3, x4⟩ := cells5 bX
        obtain ⟨m0, m1, m2, m3⟩ := cells4 bS
        have xl := heap_lt bX
        obtain ⟨br, hbr, hr1, hr2, hr9, hrc, hrf, hset⟩ := hO.regs (by omega)
        subst hbr
        have rc := Lib.hid hrc
        have rf := Lib.hid hrf
        have rs := Lib.hid hset
        have hOc := Lib.hid hO
        have rb := cell_lt (hrc 0 (by omega))
        clear hO hrc hrf hset bX bS
        have ca := rc.out a (by omega)
        have he := Lib.hid (show eff ⟨11, a, 0, 0, 0⟩ ⟨p, yr, ya, yb⟩ = (⟨p + 1, yr, ya, yb⟩, [(4, yr[a])]) by simp [eff, at0_nat (show a < yr.length by omega)])
        go_wp2_with (at_builtin; refine wpList_pushesN rfl _ _ 32 rfl base 68 _ 16 Try.underlying32 infoE rfl (by decide) _ (tr ++ [(5, (p : Int))]) rfl (hv2.out.new ((Kp.refl _ _).alloc _)) _ [(4, yr[a])] rfl (one_src (Nat.le_refl _) (by decide) (newsE _ _ _ _)) (fun q _ => oneE q) (by simp; omega) (by simp; omega) (size_alloc_le (by omega) _) ?_; intro v2 w2 hv3 hk3 ha3)
        go_meet
        rw [he.out]
        rw [List.append_assoc] at hv3
        exact ⟨v2, rfl, Mid2.app (((Kp.refl _ _).alloc _).trans hk3) (ha3.imp id fun e b hb => by rw [e] at hb; cases hb; exact size_alloc_le (Nat.le_refl _) _) hOc.out hM.out.off hv3⟩
    | fence =>
      as_aux_lemma =>
        have hO := hM.out.o
        have bX := hM.out.x
        have bS := hM.out.s
        have q1 := hM.out.hbx
        have q2 := hM.out.N.size
        have hh2 : hi ≤ we.heap.size := by have := hM.out.hh; omega
        dsimp only at bX
        obtain ⟨x0, x1, x2, x3, x4⟩ := cells5 bX
        obtain ⟨m0, m1, m2, m3⟩ := cells4 bS
        have xl := heap_lt bX
        obtain ⟨br, hbr, hr1, hr2, hr9, hrc, hrf, hset⟩ := hO.regs (by omega)
        subst hbr
        have rc := Lib.hid hrc
        have rf := Lib.hid hrf
        have rs := Lib.hid hset
        have hOc := Lib.hid hO
        have rb := cell_lt (hrc 0 (by omega))
        clear hO hrc hrf hset bX bS
        have he := Lib.hid (show eff ⟨12, 0, 0, 0, 0⟩ ⟨p, yr, ya, yb⟩ = (⟨p + 1, yr, ya, yb⟩, []) by simp [eff])
        go_wp2
        go_meet
        rw [he.out]
        exact ⟨_, rfl, Mid2.same hOc.out hv2.out⟩
    | halt =>
      as_aux_lemma =>
        have hO := hM.out.o
        have bX := hM.out.x
        have bS := hM.out.s
        have q1 := hM.out.hbx
        have q2 := hM.out.N.size
        have hh2 : hi ≤ we.heap.size := by have := hM.out.hh; omega
        dsimp only at bX
        obtain ⟨x0, x1, x2, x3, x4⟩ := cells5 bX
        obtain ⟨m0, m1, m2, m3⟩ := cells4 bS
        have xl := heap_lt bX
        obtain ⟨br, hbr, hr1, hr2, hr9, hrc, hrf, hset⟩ := hO.regs (by omega)
        subst hbr
        have rc := Lib.hid hrc
        have rf := Lib.hid hrf
        have rs := Lib.hid hset
        have hOc := Lib.hid hO
        have rb := cell_lt (hrc 0 (by omega))
        clear hO hrc hrf hset bX bS
        have he := Lib.hid (show eff ⟨13, 0, 0, 0, 0⟩ ⟨p, yr, ya, yb⟩ = (⟨p, yr, ya, yb⟩, []) by simp [eff])
        go_wp2
        go_meet
        rw [he.out]
        exact ⟨_, rfl, Mid2.same hOc.out hv2.out⟩
  case rest =>
  obtain ⟨v2, rfl, M2⟩ := hcut
  obtain ⟨bX2, bS2, bR2⟩ := ends hM.out M2
  have hl := eff_len hvh.out ⟨p, yr, ya, yb⟩
  have hr : (eff y ⟨p, yr, ya, yb⟩).1.r.length = 14 := hl.1.trans hkh.out.rl
  have hme := mv_eff hvh.out (s := ⟨p, yr, ya, yb⟩) hkh.out.rl
  dsimp only at hme
  have hsr := M2.o.toR.1
  have hhz : hi ≤ wc.heap.size := by have := hM.out.hh; have := hM.out.N.size; have := M2.k.size; omega
  have hP := fun w3 => post (w3 := w3) (u := .int .i64 (eff y ⟨p, yr, ya, yb⟩).1.pc) (vs := [.int .i64 (eff y ⟨p, yr, ya, yb⟩).1.pc, .slice a4 yr.length d4, .slice a5 ya.length d5, .slice a6 yb.length d6]) hM.out M2
  have hcall := Lib.hid (l6Move wc lo hi p (.slice a4 yr.length d4) (eff y ⟨p, yr, ya, yb⟩).1.r y (nv := ya.length) (na := yb.length) (nl := x.length) hsr hhz hr hvh.out (by omega))
  rw [hme] at hcall
  have hP2 := Lib.hid hP
  have hbx2 := hM.out.hbx
  generalize (eff y ⟨p, yr, ya, yb⟩).1 = s' at *
  clear hP hsr hr hl hme hM hvh hkh hv2
  obtain ⟨x0, x1, x2, x3, x4⟩ := cells5 bX2
  have m0 := cell_of_heap bS2 0
  have sl := heap_lt bS2
  have M2h := Lib.hid M2
  clear M2
  go_wp2_with (go_at_call 87; refine hcall.out.mono ?_; rintro e w3 ⟨rfl, hn3⟩; have bS3 := heap_new hn3 bS2; have bR3 := heap_new hn3 bR2; clear bX2 bS2 bR2 x0 x1 x2 x3 x4 m0 hcall sl; have m0 := cell_of_heap bS3 0; have m1 := cell_of_heap bS3 1; have m2 := cell_of_heap bS3 2; have m3 := cell_of_heap bS3 3; have mf := frozen_of_heap bS3; have e0 := cell_of_heap bR3 0; have e1 := cell_of_heap bR3 1; have e2 := cell_of_heap bR3 2; have e3 := cell_of_heap bR3 3; have ef := frozen_of_heap bR3; have sl := heap_lt bS3; have rl := heap_lt bR3; have hn4 := Lib.hid hn3; clear hn3)
  have hR := setMany_row [.int .i64 s'.pc, .slice a4 yr.length d4, .slice a5 ya.length d5, .slice a6 yb.length d6] (heap_set (o := 0) bR3 (show w.heap.size + 1 + 1 ≠ w.heap.size + 1 by omega) (.int .i64 s'.pc)) rfl
  exact bodyPost_ret (v := .tuple #[.agg #[.int .i64 s'.pc, .slice a4 yr.length d4, .slice a5 ya.length d5, .slice a6 yb.length d6], v2]) (results_cell_tmp rfl _ _ _ _ _ _ _ _ rfl rfl hR Try.underlying38 rfl (by kernel_rfl)) rfl (hP2.out _ hn4.out)
end Go.Proofs.Ytbicpkmlionldaa.StepX
