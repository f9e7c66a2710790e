/- StepMachine of the program and of the reference. Conditions: bounds on the lengths. -/
import Derived.Test.YtljokgoghphgdaaWStepW
import Derived.Test.YtljokgoghphgdaaWStepX
import Derived.Test.YtljokgoghphgdaaWP5
import Derived.Test.YtljokgoghphgdaaWRunP
import Derived.Test.YtljokgoghphgdaaWStartC
import Derived.Test.YtljokgoghphgdaaWP1
namespace Go.Proofs.Ytljokgoghphgdaa.StepC
open Go.RowKit Kit Step StepK Val MarkC RunP
set_option linter.unusedVariables false
/-- what StepMachine returns -/
def Ret (w : World) (t : Bool) (s : Ms) (l : List Ev) (e : Ending) (w' : World) : Prop := ∃ vr ua ub ve p q, e = .returned (.tuple #[.agg #[.int .i64 (out t s).pc, vr, ua, ub], ve, .bool t]) ∧ New w w' ∧ MachO w' p q vr ua ub (out t s).r (out t s).v (out t s).a ∧ w.heap.size ≤ p ∧ q ≤ w'.heap.size ∧ OwnF 2 encE w' w.heap.size 41 ve (Rec.pk t l) ∧ ∀ b, ve.ownBlock = some b → b < p ∨ q ≤ b
theorem Ret.zero {w w' : World} {t : Bool} {s : Ms} {l : List Ev} {e : Ending} {ve : Value} (h : t = false) (he : e = .returned (.tuple #[.agg #[.int .i64 0, .slice none 0 0, .slice none 0 0, .slice none 0 0], ve, .bool false])) (k : New w w') (hO : OwnF 2 encE w' w.heap.size 41 ve []) : Ret w t s l e w' := by
  subst h
  exact ⟨_, _, _, _, w.heap.size, w.heap.size, he, k, StartC.nilO _ _ _ (Nat.le_refl _), Nat.le_refl _, k.size, hO, fun b _ => by omega⟩
theorem Ret.full {w w' : World} {t : Bool} {s : Ms} {l : List Ev} {e : Ending} {vr ua ub ve : Value} {p q : Nat} (h : t = true) (he : e = .returned (.tuple #[.agg #[.int .i64 s.pc, vr, ua, ub], ve, .bool true])) (k : New w w') (hO : MachO w' p q vr ua ub s.r s.v s.a) (hp : w.heap.size ≤ p) (hq : q ≤ w'.heap.size) (hE : OwnF 2 encE w' w.heap.size 41 ve l) (ha : ∀ b, ve.ownBlock = some b → b < p ∨ q ≤ b) : Ret w t s l e w' := by
  subst h; exact ⟨vr, ua, ub, ve, p, q, he, k, hO, hp, hq, hE, ha⟩
/-- the same, in the words of the laws -/
def Post (w : World) (t : Bool) (z : Ms) (zl : List Ev) (e : Ending) (w' : World) : Prop := ∃ vr ua ub ve p q r s, e = .returned (.tuple #[.agg #[.int .i64 z.pc, vr, ua, ub], ve, .bool t]) ∧ New w w' ∧ MachO w' p q vr ua ub z.r z.v z.a ∧ OwnR 2 encE w' r s 41 ve zl ∧ w.heap.size ≤ p ∧ q ≤ w'.heap.size ∧ w.heap.size ≤ r ∧ s ≤ w'.heap.size ∧ (s ≤ p ∨ q ≤ r)
theorem own_range {w : World} {base lo hi : Nat} {ve : Value} {l : List Ev} (h : OwnF 2 encE w base 41 ve l) (ha : ∀ b, ve.ownBlock = some b → b < lo ∨ hi ≤ b) (hb : base ≤ w.heap.size) (hlo : base ≤ lo) : ∃ r s, OwnR 2 encE w r s 41 ve l ∧ base ≤ r ∧ s ≤ w.heap.size ∧ (s ≤ lo ∨ hi ≤ r) := by
  rcases h.form with ⟨e1, e2⟩ | ⟨b, cap, cs, rfl, hb1, hb2, hb3, hh, hs, hc⟩
  · subst e1; subst e2
    exact ⟨base, base, ⟨OwnF.nil _ _ _, fun b hb => by simp [Value.ownBlock] at hb⟩, Nat.le_refl _, hb, .inl hlo⟩
  · have h1 := ha b (by simp [Value.ownBlock])
    have h2 := heap_lt hh
    refine ⟨b, b + 1, ⟨OwnF.mk' hh (Nat.le_refl _) hb2 hb3 hs hc, fun c hc => ?_⟩, hb1, h2, by omega⟩
    have : b = c := by simpa [Value.ownBlock] using hc
    omega
theorem Ret.post {w w' : World} {t : Bool} {s z : Ms} {l zl : List Ev} {e : Ending} (h : Ret w t s l e w') (hz : out t s = z) (hl : Rec.pk t l = zl) : Post w t z zl e w' := by
  obtain ⟨vr, ua, ub, ve, p, q, he, k, hO, h1, h2, hE, ha⟩ := h
  subst hz; subst hl
  obtain ⟨r, s, g1, g2, g3, g4⟩ := own_range hE ha k.size h1
  exact ⟨vr, ua, ub, ve, p, q, r, s, he, k, hO, g1, h1, h2, g2, g3, g4⟩
/-- how great what comes back may be -/
theorem bounds {xa xb yr ya : List Int} {x : List Ins} {yb : List (List Int)} {pc : Int} {t : Bool} {z : Ms} {zl : List Ev} (ht : machB xa xb x pc yr ya yb = t) (hz : out t (eff (ins x pc) ⟨pc, yr, ya, yb⟩).1 = z) (hl : Rec.pk t ((5, pc) :: (eff (ins x pc) ⟨pc, yr, ya, yb⟩).2) = zl) : z.r.length ≤ 14 ∧ z.v.length ≤ 12 ∧ msz z.a ≤ 12 ∧ zl.length ≤ 2 := by
  cases t with
  | false => subst hz; subst hl; simp [out, Rec.pk, msz]
  | true =>
    obtain ⟨p, rfl, hp, hc, hk, b1, b2⟩ := mach_ok ht
    have hv := hc.view p hp
    rw [ins_nat hp] at hz hl
    have h2 := eff_okm hv hk
    have h3 := eff_len hv ⟨p, yr, ya, yb⟩
    simp only [out, if_true] at hz
    rw [hz] at h2
    have q1 := h2.rl; have q2 := h2.vl; have q3 := h2.al
    refine ⟨by omega, by omega, msz_small h2.ar (by omega), ?_⟩
    subst hl
    simpa [Rec.pk] using h3.2
set_option maxHeartbeats 4000000 in
set_option maxRecDepth 100000 in
theorem implS (w : World) (lo hi lo' hi' : Nat) (ta tb tc vr va vb : Value) (pc : Int) (xa xb yr ya : List Int) (x : List Ins) (yb : List (List Int)) (sa : IntsR w lo hi ta xa) (sb : IntsR w lo hi tb xb) (s : InssR w lo hi tc x) (h1 : hi ≤ w.heap.size) (hO : MachO w lo' hi' vr va vb yr ya yb) (h2 : hi' ≤ w.heap.size)
    (mr : yr.length ≤ 1099511627776) (m0 : ya.length ≤ 1099511627776) (m1 : yb.length ≤ 1073741824) (m2 : ∀ x ∈ yb, x.length ≤ 1099511627776) :
    Calls Try.prog 15 #[.agg #[ta, tb, tc], .agg #[.int .i64 pc, vr, va, vb]] w (Ret w (machB xa xb x pc yr ya yb) (eff (ins x pc) ⟨pc, yr, ya, yb⟩).1 ((5, pc) :: (eff (ins x pc) ⟨pc, yr, ya, yb⟩).2)) := by
  obtain ⟨a1, d1, rfl, l1⟩ := sa.len
  obtain ⟨a2, d2, rfl, l2⟩ := sb.len
  obtain ⟨a3, d3, rfl, l3⟩ := s.len
  obtain ⟨⟨a4, d4, rfl⟩, ⟨a5, d5, rfl⟩, a6, d6, rfl⟩ := hO.toR.lens
  have hOh := Lib.hid hO
  have hsa := Lib.hid sa
  have hsb := Lib.hid sb
  have hs := Lib.hid s
  clear hO sa sb s
  go_enter Try.func15, Try.ntmps15
  go_wp2_with fail
  have N0 : New w (((w.alloc (.cells #[.slice a1 xa.length d1, .slice a2 xb.length d2, .slice a3 x.length d3] 26)).alloc (.cells #[.int .i64 pc, .slice a4 yr.length d4, .slice a5 ya.length d5, .slice a6 yb.length d6] 31)).alloc (.cells #[.int .i64 0, .slice none 0 0, .slice none 0 0, .slice none 0 0] 31)) := ((((Kp.refl _ _).alloc _).alloc _).alloc _)
  have bC_0 : (((w.alloc (.cells #[.slice a1 xa.length d1, .slice a2 xb.length d2, .slice a3 x.length d3] 26)).alloc (.cells #[.int .i64 pc, .slice a4 yr.length d4, .slice a5 ya.length d5, .slice a6 yb.length d6] 31)).alloc (.cells #[.int .i64 0, .slice none 0 0, .slice none 0 0, .slice none 0 0] 31)).heap[w.heap.size]? = some (.cells #[.slice a1 xa.length d1, .slice a2 xb.length d2, .slice a3 x.length d3] 26) := heap_old (heap_old (alloc_heap _ _))
  have bM_0 : (((w.alloc (.cells #[.slice a1 xa.length d1, .slice a2 xb.length d2, .slice a3 x.length d3] 26)).alloc (.cells #[.int .i64 pc, .slice a4 yr.length d4, .slice a5 ya.length d5, .slice a6 yb.length d6] 31)).alloc (.cells #[.int .i64 0, .slice none 0 0, .slice none 0 0, .slice none 0 0] 31)).heap[w.heap.size + 1]? = some (.cells #[.int .i64 pc, .slice a4 yr.length d4, .slice a5 ya.length d5, .slice a6 yb.length d6] 31) := heap_old (heap_at (by simp))
  have bR_0 : (((w.alloc (.cells #[.slice a1 xa.length d1, .slice a2 xb.length d2, .slice a3 x.length d3] 26)).alloc (.cells #[.int .i64 pc, .slice a4 yr.length d4, .slice a5 ya.length d5, .slice a6 yb.length d6] 31)).alloc (.cells #[.int .i64 0, .slice none 0 0, .slice none 0 0, .slice none 0 0] 31)).heap[w.heap.size + 1 + 1]? = some (.cells #[.int .i64 0, .slice none 0 0, .slice none 0 0, .slice none 0 0] 31) := heap_at (by simp)
  have z0 : w.heap.size + 1 + 1 < (((w.alloc (.cells #[.slice a1 xa.length d1, .slice a2 xb.length d2, .slice a3 x.length d3] 26)).alloc (.cells #[.int .i64 pc, .slice a4 yr.length d4, .slice a5 ya.length d5, .slice a6 yb.length d6] 31)).alloc (.cells #[.int .i64 0, .slice none 0 0, .slice none 0 0, .slice none 0 0] 31)).heap.size := by simp
  generalize (((w.alloc (.cells #[.slice a1 xa.length d1, .slice a2 xb.length d2, .slice a3 x.length d3] 26)).alloc (.cells #[.int .i64 pc, .slice a4 yr.length d4, .slice a5 ya.length d5, .slice a6 yb.length d6] 31)).alloc (.cells #[.int .i64 0, .slice none 0 0, .slice none 0 0, .slice none 0 0] 31)) = w0 at *
  obtain ⟨bC_0_c0, bC_0_c1, bC_0_c2⟩ := cells3 bC_0
  obtain ⟨bM_0_c0, bM_0_c1, bM_0_c2, bM_0_c3⟩ := cells4 bM_0
  obtain ⟨bR_0_c0, bR_0_c1, bR_0_c2, bR_0_c3⟩ := cells4 bR_0
  refine (MachV.implV (hsa.out.new h1 N0) (hsb.out.new h1 N0) (hs.out.new h1 N0) (hOh.out.toR.1.new h2 N0) (hOh.out.toR.2.1.new h2 N0) (hOh.out.toR.2.2.new h2 N0) (by omega) (by omega)).mono ?_
  rintro e w1 ⟨rfl, hn1⟩
  have z1 := hn1.size
  have N1 : New w w1 := N0.trans hn1
  have bC_1 := heap_new hn1 bC_0
  have bM_1 := heap_new hn1 bM_0
  have bR_1 := heap_new hn1 bR_0
  clear bC_0_c0 bC_0_c1 bC_0_c2 bM_0_c0 bM_0_c1 bM_0_c2 bM_0_c3 bR_0_c0 bR_0_c1 bR_0_c2 bR_0_c3
  clear bC_0 bM_0 bR_0 hn1
  cases q1 : machB xa xb x pc yr ya yb
  · have D := Lib.hid q1
    clear q1
    obtain ⟨e0_, e1_, e2_, e3_⟩ := cells4 bR_1
    have ef_ := frozen_of_heap bR_1
    go_wp2
    have hkz := setMany_kp (w.heap.size + 1 + 1) [.int .i64 0, .slice none 0 0, .slice none 0 0, .slice none 0 0] w1 0
    have hR := setMany_row [.int .i64 0, .slice none 0 0, .slice none 0 0, .slice none 0 0] bR_1 rfl
    exact bodyPost_ret (results_cell_tmp2 rfl _ _ _ _ _ _ _ _ _ rfl rfl rfl hR Try.underlying31 rfl (by kernel_rfl)) rfl (Ret.zero D.out rfl (New.one N1 hkz (by omega)) (OwnF.nil _ _ _))
  obtain ⟨p, rfl, hp, hc, hk, b1, b2⟩ := mach_ok q1
  have D := Lib.hid q1
  clear q1
  have hch := Lib.hid hc
  have hkh := Lib.hid hk
  have hcl := hc.len
  clear hc hk
  obtain ⟨bC_1_c0, bC_1_c1, bC_1_c2⟩ := cells3 bC_1
  obtain ⟨bM_1_c0, bM_1_c1, bM_1_c2, bM_1_c3⟩ := cells4 bM_1
  obtain ⟨bR_1_c0, bR_1_c1, bR_1_c2, bR_1_c3⟩ := cells4 bR_1
  go_wp2_with fail
  clear bC_1_c0 bC_1_c1 bC_1_c2 bM_1_c0 bM_1_c1 bM_1_c2 bM_1_c3 bR_1_c0 bR_1_c1 bR_1_c2 bR_1_c3
  refine (CopyS.ownMach _ lo' hi' _ _ _ _ _ _ _ (hOh.out.new h2 N1) (by omega) mr m0 m1 m2).mono ?_
  rintro e w2 ⟨u1, u2, u3, rfl, hn2, hq⟩
  have z2 := hn2.size
  have N2 : New w w2 := N1.trans hn2
  have bC_2 := heap_new hn2 bC_1
  have bM_2 := heap_new hn2 bM_1
  have bR_2 := heap_new hn2 bR_1
  clear bC_1 bM_1 bR_1 hn2
  obtain ⟨⟨a7, d7, e7⟩, ⟨a8, d8, e8⟩, a9, d9, e9⟩ := hq.toR.lens
  subst e7; subst e8; subst e9
  have oQ_2 := hq
  clear hq
  have zq := z2
  have hn3 : New w2 (w2.alloc (.cells #[.int .i64 p, .slice a7 yr.length d7, .slice a8 ya.length d8, .slice a9 yb.length d9] 31)) := (Kp.refl _ _).alloc _
  have z3 : w2.heap.size < (w2.alloc (.cells #[.int .i64 p, .slice a7 yr.length d7, .slice a8 ya.length d8, .slice a9 yb.length d9] 31)).heap.size := by simp
  have N3 : New w (w2.alloc (.cells #[.int .i64 p, .slice a7 yr.length d7, .slice a8 ya.length d8, .slice a9 yb.length d9] 31)) := N2.trans hn3
  have bC_3 := heap_new hn3 bC_2
  have bM_3 := heap_new hn3 bM_2
  have bR_3 := heap_new hn3 bR_2
  have oQ_3 := oQ_2.new (by omega) hn3
  have bO_3 : (w2.alloc (.cells #[.int .i64 p, .slice a7 yr.length d7, .slice a8 ya.length d8, .slice a9 yb.length d9] 31)).heap[w2.heap.size]? = some (.cells #[.int .i64 p, .slice a7 yr.length d7, .slice a8 ya.length d8, .slice a9 yb.length d9] 31) := alloc_heap _ _
  clear bC_2 bM_2 bR_2 oQ_2 hn3
  obtain ⟨bC_3_c0, bC_3_c1, bC_3_c2⟩ := cells3 bC_3
  obtain ⟨bM_3_c0, bM_3_c1, bM_3_c2, bM_3_c3⟩ := cells4 bM_3
  obtain ⟨bR_3_c0, bR_3_c1, bR_3_c2, bR_3_c3⟩ := cells4 bR_3
  obtain ⟨bO_3_c0, bO_3_c1, bO_3_c2, bO_3_c3⟩ := cells4 bO_3
  go_wp2_with fail
  generalize (w2.alloc (.cells #[.int .i64 p, .slice a7 yr.length d7, .slice a8 ya.length d8, .slice a9 yb.length d9] 31)) = w3 at *
  refine (StepW.step w3 w1.heap.size w2.heap.size w2.heap.size lo hi p _ _ _ _ _ _ xa xb yr ya x yb (hsa.out.new h1 N3) (hsb.out.new h1 N3) (hs.out.new h1 N3) (by omega) bO_3 oQ_3 (.inr (by omega)) (by omega) hp hcl (hch.out.view p hp) hkh.out (by omega)).mono ?_
  rintro e w4 ⟨ve, rfl, hn4, bO_4, hM, hE⟩
  have bC_4 := (hn4.block _ (by omega) (by omega)).trans bC_3
  have bM_4 := (hn4.block _ (by omega) (by omega)).trans bM_3
  have bR_4 := (hn4.block _ (by omega) (by omega)).trans bR_3
  have z4 := hn4.size
  have N4 := New.on N3 hn4 (fun i e => by omega)
  clear bC_3_c0 bC_3_c1 bC_3_c2 bM_3_c0 bM_3_c1 bM_3_c2 bM_3_c3 bR_3_c0 bR_3_c1 bR_3_c2 bR_3_c3 bO_3_c0 bO_3_c1 bO_3_c2 bO_3_c3
  have hMh := Lib.hid hM
  have hEh := Lib.hid hE
  have hme := Lib.hid (ins_nat hp)
  have hEl := hE.lt
  clear hM hE
  obtain ⟨⟨_, _, _⟩, _⟩ : (True ∧ True ∧ True) ∧ True := ⟨⟨trivial, trivial, trivial⟩, trivial⟩
  obtain ⟨s2, hs2⟩ : ∃ s2, s2 = (eff x[p] ⟨p, yr, ya, yb⟩).1 := ⟨_, rfl⟩
  have hs3 := Lib.hid hs2
  rw [← hs2] at bO_4
  clear hs2
  obtain ⟨m0_, m1_, m2_, m3_⟩ := cells4 bO_4
  obtain ⟨e0_, e1_, e2_, e3_⟩ := cells4 bR_4
  have ef_ := frozen_of_heap bR_4
  have hnh := Lib.hid hn4
  clear hn4
  go_wp2
  have hkz := setMany_kp (w.heap.size + 1 + 1) [.int .i64 s2.pc, .slice a7 yr.length d7, .slice a8 ya.length d8, .slice a9 yb.length d9] w4 0
  have zs := setMany_size (w.heap.size + 1 + 1) [.int .i64 s2.pc, .slice a7 yr.length d7, .slice a8 ya.length d8, .slice a9 yb.length d9] w4 0
  have hR := setMany_row [.int .i64 s2.pc, .slice a7 yr.length d7, .slice a8 ya.length d8, .slice a9 yb.length d9] bR_4 rfl
  have hM2 := hMh.out.kp hkz (fun b e => .inl (by omega))
  have hE2 := (hEh.out.kp hkz (fun b hb e => by have := hEl b hb; omega)).mono (base' := w.heap.size) (by omega)
  rw [← hs3.out] at hM2
  refine bodyPost_ret (v := .tuple #[.agg #[.int .i64 s2.pc, .slice a7 yr.length d7, .slice a8 ya.length d8, .slice a9 yb.length d9], ve, .bool true]) (results_cell_tmp2 rfl _ _ _ _ _ _ _ _ _ rfl rfl rfl hR Try.underlying31 rfl (by kernel_rfl)) rfl ?_
  rw [hme.out, ← hs3.out]
  have hqs : w2.heap.size ≤ (setMany w4 (w.heap.size + 1 + 1) 0 [.int .i64 s2.pc, .slice a7 yr.length d7, .slice a8 ya.length d8, .slice a9 yb.length d9]).heap.size := by omega
  exact Ret.full D.out rfl (New.one N4 hkz (by omega)) hM2 (by omega) hqs hE2 (fun b hb => by have := hEl b hb; omega)
set_option maxHeartbeats 4000000 in
set_option maxRecDepth 100000 in
theorem specS (w : World) (lo hi lo' hi' : Nat) (ta tb tc vr va vb : Value) (pc : Int) (xa xb yr ya : List Int) (x : List Ins) (yb : List (List Int)) (sa : IntsR w lo hi ta xa) (sb : IntsR w lo hi tb xb) (s : InssR w lo hi tc x) (h1 : hi ≤ w.heap.size) (rr : IntsR w lo' hi' vr yr) (ra : IntsR w lo' hi' va ya) (rb : MatR w lo' hi' vb yb) (h2 : hi' ≤ w.heap.size)
    (mr : yr.length ≤ 1099511627776) (m0 : ya.length ≤ 1099511627776) (m1 : yb.length ≤ 1073741824) (m2 : ∀ x ∈ yb, x.length ≤ 1099511627776) :
    Calls Try.prog 16 #[.agg #[ta, tb, tc], .agg #[.int .i64 pc, vr, va, vb]] w (Ret w (machB xa xb x pc yr ya yb) (eff (ins x pc) ⟨pc, yr, ya, yb⟩).1 ((5, pc) :: (eff (ins x pc) ⟨pc, yr, ya, yb⟩).2)) := by
  obtain ⟨a1, d1, rfl, l1⟩ := sa.len
  obtain ⟨a2, d2, rfl, l2⟩ := sb.len
  obtain ⟨a3, d3, rfl, l3⟩ := s.len
  obtain ⟨a4, d4, rfl, l4⟩ := rr.len
  obtain ⟨a5, d5, rfl, l5⟩ := ra.len
  obtain ⟨a6, d6, rfl, l6⟩ := rb.len
  have hsa := Lib.hid sa
  have hsb := Lib.hid sb
  have hs := Lib.hid s
  have hrr := Lib.hid rr
  have hra := Lib.hid ra
  have hrb := Lib.hid rb
  clear sa sb s rr ra rb
  go_enter Try.func16, Try.ntmps16
  go_wp2_with fail
  have N0 : New w (((w.alloc (.cells #[.slice a1 xa.length d1, .slice a2 xb.length d2, .slice a3 x.length d3] 26)).alloc (.cells #[.int .i64 pc, .slice a4 yr.length d4, .slice a5 ya.length d5, .slice a6 yb.length d6] 31)).alloc (.cells #[.int .i64 0, .slice none 0 0, .slice none 0 0, .slice none 0 0] 31)) := ((((Kp.refl _ _).alloc _).alloc _).alloc _)
  have bC_0 : (((w.alloc (.cells #[.slice a1 xa.length d1, .slice a2 xb.length d2, .slice a3 x.length d3] 26)).alloc (.cells #[.int .i64 pc, .slice a4 yr.length d4, .slice a5 ya.length d5, .slice a6 yb.length d6] 31)).alloc (.cells #[.int .i64 0, .slice none 0 0, .slice none 0 0, .slice none 0 0] 31)).heap[w.heap.size]? = some (.cells #[.slice a1 xa.length d1, .slice a2 xb.length d2, .slice a3 x.length d3] 26) := heap_old (heap_old (alloc_heap _ _))
  have bM_0 : (((w.alloc (.cells #[.slice a1 xa.length d1, .slice a2 xb.length d2, .slice a3 x.length d3] 26)).alloc (.cells #[.int .i64 pc, .slice a4 yr.length d4, .slice a5 ya.length d5, .slice a6 yb.length d6] 31)).alloc (.cells #[.int .i64 0, .slice none 0 0, .slice none 0 0, .slice none 0 0] 31)).heap[w.heap.size + 1]? = some (.cells #[.int .i64 pc, .slice a4 yr.length d4, .slice a5 ya.length d5, .slice a6 yb.length d6] 31) := heap_old (heap_at (by simp))
  have bR_0 : (((w.alloc (.cells #[.slice a1 xa.length d1, .slice a2 xb.length d2, .slice a3 x.length d3] 26)).alloc (.cells #[.int .i64 pc, .slice a4 yr.length d4, .slice a5 ya.length d5, .slice a6 yb.length d6] 31)).alloc (.cells #[.int .i64 0, .slice none 0 0, .slice none 0 0, .slice none 0 0] 31)).heap[w.heap.size + 1 + 1]? = some (.cells #[.int .i64 0, .slice none 0 0, .slice none 0 0, .slice none 0 0] 31) := heap_at (by simp)
  have z0 : w.heap.size + 1 + 1 < (((w.alloc (.cells #[.slice a1 xa.length d1, .slice a2 xb.length d2, .slice a3 x.length d3] 26)).alloc (.cells #[.int .i64 pc, .slice a4 yr.length d4, .slice a5 ya.length d5, .slice a6 yb.length d6] 31)).alloc (.cells #[.int .i64 0, .slice none 0 0, .slice none 0 0, .slice none 0 0] 31)).heap.size := by simp
  generalize (((w.alloc (.cells #[.slice a1 xa.length d1, .slice a2 xb.length d2, .slice a3 x.length d3] 26)).alloc (.cells #[.int .i64 pc, .slice a4 yr.length d4, .slice a5 ya.length d5, .slice a6 yb.length d6] 31)).alloc (.cells #[.int .i64 0, .slice none 0 0, .slice none 0 0, .slice none 0 0] 31)) = w0 at *
  obtain ⟨bC_0_c0, bC_0_c1, bC_0_c2⟩ := cells3 bC_0
  obtain ⟨bM_0_c0, bM_0_c1, bM_0_c2, bM_0_c3⟩ := cells4 bM_0
  obtain ⟨bR_0_c0, bR_0_c1, bR_0_c2, bR_0_c3⟩ := cells4 bR_0
  refine (MachV.specV (hsa.out.new h1 N0) (hsb.out.new h1 N0) (hs.out.new h1 N0) (hrr.out.new h2 N0) (hra.out.new h2 N0) (hrb.out.new h2 N0) (by omega) (by omega)).mono ?_
  rintro e w1 ⟨rfl, hn1⟩
  have z1 := hn1.size
  have N1 : New w w1 := N0.trans hn1
  have bC_1 := heap_new hn1 bC_0
  have bM_1 := heap_new hn1 bM_0
  have bR_1 := heap_new hn1 bR_0
  clear bC_0_c0 bC_0_c1 bC_0_c2 bM_0_c0 bM_0_c1 bM_0_c2 bM_0_c3 bR_0_c0 bR_0_c1 bR_0_c2 bR_0_c3
  clear bC_0 bM_0 bR_0 hn1
  cases q1 : machB xa xb x pc yr ya yb
  · have D := Lib.hid q1
    clear q1
    obtain ⟨e0_, e1_, e2_, e3_⟩ := cells4 bR_1
    have ef_ := frozen_of_heap bR_1
    have rl_ := heap_lt bR_1
    go_wp2
    have hkz := setMany_kp (w.heap.size + 1 + 1) [.int .i64 0, .slice none 0 0, .slice none 0 0, .slice none 0 0] w1 0
    have zs := setMany_size (w.heap.size + 1 + 1) [.int .i64 0, .slice none 0 0, .slice none 0 0, .slice none 0 0] w1 0
    have hR := heap_old (x := .cells #[] 41) (setMany_row [.int .i64 0, .slice none 0 0, .slice none 0 0, .slice none 0 0] bR_1 rfl)
    have hE := OwnF.empty (α := Ev) (n := 2) (enc := encE) (setMany w1 (w.heap.size + 1 + 1) 0 [.int .i64 0, .slice none 0 0, .slice none 0 0, .slice none 0 0]) 41 (base := w.heap.size) (by omega)
    rw [zs] at hE
    exact bodyPost_ret (results_cell_tmp2 rfl _ _ _ _ _ _ _ _ _ rfl rfl rfl hR Try.underlying31 rfl (by kernel_rfl)) rfl (Ret.zero D.out rfl ((New.one N1 hkz (by omega)).trans ((Kp.refl _ _).alloc _)) hE)
  obtain ⟨p, rfl, hp, hc, hk, b1, b2⟩ := mach_ok q1
  have D := Lib.hid q1
  clear q1
  have hch := Lib.hid hc
  have hkh := Lib.hid hk
  have hcl := hc.len
  clear hc hk
  go_wp2_with fail
  have hn2 : New w1 w1.drew := (Kp.refl _ _).drew
  have z2 := hn2.size
  have N2 : New w w1.drew := N1.trans hn2
  have bC_2 := heap_new hn2 bC_1
  have bM_2 := heap_new hn2 bM_1
  have bR_2 := heap_new hn2 bR_1
  clear bC_1 bM_1 bR_1 hn2
  obtain ⟨bC_2_c0, bC_2_c1, bC_2_c2⟩ := cells3 bC_2
  obtain ⟨bM_2_c0, bM_2_c1, bM_2_c2, bM_2_c3⟩ := cells4 bM_2
  obtain ⟨bR_2_c0, bR_2_c1, bR_2_c2, bR_2_c3⟩ := cells4 bR_2
  refine wp_region_tail (k := 8) (S := fun w' => w'.cell? ⟨w.heap.size, 0, none⟩ = some (.slice a1 xa.length d1) ∧ w'.cell? ⟨w.heap.size, 1, none⟩ = some (.slice a2 xb.length d2) ∧ w'.cell? ⟨w.heap.size, 2, none⟩ = some (.slice a3 x.length d3) ∧ w'.cell? ⟨w.heap.size + 1, 0, none⟩ = some (.int .i64 p) ∧ w'.cell? ⟨w.heap.size + 1, 1, none⟩ = some (.slice a4 yr.length d4) ∧ w'.cell? ⟨w.heap.size + 1, 2, none⟩ = some (.slice a5 ya.length d5) ∧ w'.cell? ⟨w.heap.size + 1, 3, none⟩ = some (.slice a6 yb.length d6)) (by kernel_rfl) ?_ (fun hHeld => ?_)
  · exact ⟨bC_2_c0, bC_2_c1, bC_2_c2, bM_2_c0, bM_2_c1, bM_2_c2, bM_2_c3⟩
  refine AnyK.tk 0 rfl ?_
  try simp only [AP]
  refine AnyK.tk 1 rfl ?_
  try simp only [AP]
  refine AnyK.two (i := 2) (j := 7) (by kernel_rfl) rfl rfl (fun K hK => ?_) (fun K hK => ?_)
  · go_simp
    refine (CopyS.l6Copy _ lo' hi' _ _ _ _ _ _ _ (hrr.out.new h2 N2) (hra.out.new h2 N2) (hrb.out.new h2 N2) (by have := N2.size; omega) mr m0 m1 m2).mono ?_
    rintro e wc1 ⟨u1, u2, u3, rfl, hnc1, hq⟩
    obtain ⟨⟨a7, d7, e7⟩, ⟨a8, d8, e8⟩, a9, d9, e9⟩ := hq.toR.lens
    subst e7; subst e8; subst e9
    have hqh := Lib.hid hq
    clear hq
    have zc1 := hnc1.size
    have Nc1 := N2.trans hnc1
    have bCc1 := heap_new hnc1 bC_2
    have bMc1 := heap_new hnc1 bM_2
    have bRc1 := heap_new hnc1 bR_2
    obtain ⟨c1C0, c1C1, c1C2⟩ := cells3 bCc1
    obtain ⟨c1M0, c1M1, c1M2, c1M3⟩ := cells4 bMc1
    refine hK.out _ _ ?_ (fun hHeld2 => ?_)
    · exact ⟨c1C0, c1C1, c1C2, c1M0, c1M1, c1M2, c1M3⟩
    clear hK K hHeld
    have hHeld := hHeld2
    clear hHeld2
    try simp only [AP]
    refine AnyK.two (i := 3) (j := 7) (by kernel_rfl) rfl rfl (fun K hK => ?_) (fun K hK => ?_)
    · go_simp
      refine (StepX.exec wc1 w1.drew.heap.size wc1.heap.size wc1.heap.size lo hi p w.heap.size _ _ _ _ _ _ (.slice none 0 0) xa xb yr ya x yb [] (hsa.out.new h1 Nc1) (hsb.out.new h1 Nc1) (hs.out.new h1 Nc1) (by have := Nc1.size; omega) (MachH.of hqh.out) (by have := zc1; omega) (OwnF.nil _ _ _) (fun b hb => by simp [Value.ownBlock] at hb) (by have := Nc1.size; omega) (by simp) hp hcl (hch.out.view p hp) hkh.out (by omega)).mono ?_
      rintro e wx2 ⟨ve, rfl, hnx2, hM, hE, hA⟩
      have zx2 := hnx2.size
      have Nx2 := New.on Nc1 hnx2 (fun i e => by simp [Value.ownBlock] at e; have := N2.size; omega)
      have bCx2 := (hnx2.block _ (heap_lt bCc1) (fun e => by simp [Value.ownBlock] at e; have := N2.size; omega)).trans bCc1
      have bMx2 := (hnx2.block _ (heap_lt bMc1) (fun e => by simp [Value.ownBlock] at e; have := N2.size; omega)).trans bMc1
      have bRx2 := (hnx2.block _ (heap_lt bRc1) (fun e => by simp [Value.ownBlock] at e; have := N2.size; omega)).trans bRc1
      have hMh := Lib.hid hM.toO
      have hEh := Lib.hid hE
      have hAh := Lib.hid hA
      have hlt := Lib.hid hE.lt
      clear hM hE hA
      obtain ⟨x2C0, x2C1, x2C2⟩ := cells3 bCx2
      obtain ⟨x2M0, x2M1, x2M2, x2M3⟩ := cells4 bMx2
      refine hK.out _ _ ?_ (fun hHeld2 => ?_)
      · exact ⟨x2C0, x2C1, x2C2, x2M0, x2M1, x2M2, x2M3⟩
      clear hK K hHeld
      have hHeld := hHeld2
      clear hHeld2
      try simp only [AP]
      refine AnyK.tw 4 rfl ?_
      try simp only [AP]
      refine AnyK.tw 5 rfl ?_
      try simp only [AP]
      refine AnyK.tw 6 rfl ?_
      try simp only [AP]
      refine AnyK.step (i := 7) (by kernel_rfl) rfl (fun K hK => ?_)
      go_simp
      have hnl3 : New wx2 (wx2.alloc (.cells #[.int .i64 0, .slice none 0 0, .slice none 0 0, .slice none 0 0] 31)) := (show New wx2 (wx2.alloc (.cells #[.int .i64 0, .slice none 0 0, .slice none 0 0, .slice none 0 0] 31)) from (Kp.refl _ _).alloc _)
      have zl3 : wx2.heap.size < (wx2.alloc (.cells #[.int .i64 0, .slice none 0 0, .slice none 0 0, .slice none 0 0] 31)).heap.size := (show wx2.heap.size < (wx2.alloc (.cells #[.int .i64 0, .slice none 0 0, .slice none 0 0, .slice none 0 0] 31)).heap.size from Rec.lt_alloc _ _)
      have Nl3 := Nx2.trans hnl3
      have bCl3 := heap_new hnl3 bCx2
      have bMl3 := heap_new hnl3 bMx2
      have bRl3 := heap_new hnl3 bRx2
      have bBl3 : (wx2.alloc (.cells #[.int .i64 0, .slice none 0 0, .slice none 0 0, .slice none 0 0] 31)).heap[wx2.heap.size]? = some (.cells #[.int .i64 0, .slice none 0 0, .slice none 0 0, .slice none 0 0] 31) := (show (wx2.alloc (.cells #[.int .i64 0, .slice none 0 0, .slice none 0 0, .slice none 0 0] 31)).heap[wx2.heap.size]? = _ from alloc_heap _ _)
      generalize (wx2.alloc (.cells #[.int .i64 0, .slice none 0 0, .slice none 0 0, .slice none 0 0] 31)) = wl3 at *
      have hMh := Lib.hid (hMh.out.new (by omega) hnl3)
      have hEh := Lib.hid (hEh.out.new hnl3)
      obtain ⟨l3C0, l3C1, l3C2⟩ := cells3 bCl3
      obtain ⟨l3M0, l3M1, l3M2, l3M3⟩ := cells4 bMl3
      refine hK.out _ _ ?_ (fun hHeld2 => ?_)
      · exact ⟨l3C0, l3C1, l3C2, l3M0, l3M1, l3M2, l3M3⟩
      clear hK K hHeld
      have hHeld := hHeld2
      clear hHeld2
      try simp only [AP]
      refine AnyK.last (by kernel_rfl) ?_
      simp only [List.drop_succ_cons, List.drop_zero]
      clear hHeld
      obtain ⟨s2, hs2⟩ : ∃ s2, s2 = (eff x[p] ⟨p, yr, ya, yb⟩).1 := ⟨_, rfl⟩
      have hs3 := Lib.hid hs2
      rw [← hs3.out]
      clear hs2
      obtain ⟨e0, e1, e2, e3⟩ := cells4 bBl3
      have ef := frozen_of_heap bBl3
      have bl := heap_lt bBl3
      obtain ⟨r0, r1, r2, r3⟩ := cells4 bRl3
      have rf := frozen_of_heap bRl3
      have rl := heap_lt bRl3
      have hne : w.heap.size + 1 + 1 < wx2.heap.size := by have := N2.size; omega
      go_wp2
      have k1 := setMany_kp (wx2.heap.size) [.int .i64 s2.pc, .slice a7 yr.length d7, .slice a8 ya.length d8, .slice a9 yb.length d9] wl3 0
      have y1 := setMany_size (wx2.heap.size) [.int .i64 s2.pc, .slice a7 yr.length d7, .slice a8 ya.length d8, .slice a9 yb.length d9] wl3 0
      have bR2 := setMany_other [.int .i64 s2.pc, .slice a7 yr.length d7, .slice a8 ya.length d8, .slice a9 yb.length d9] 0 bRl3 (show w.heap.size + 1 + 1 ≠ wx2.heap.size by omega)
      have k2 := setMany_kp (w.heap.size + 1 + 1) [.int .i64 s2.pc, .slice a7 yr.length d7, .slice a8 ya.length d8, .slice a9 yb.length d9] (setMany wl3 (wx2.heap.size) 0 [.int .i64 s2.pc, .slice a7 yr.length d7, .slice a8 ya.length d8, .slice a9 yb.length d9]) 0
      have y2 := setMany_size (w.heap.size + 1 + 1) [.int .i64 s2.pc, .slice a7 yr.length d7, .slice a8 ya.length d8, .slice a9 yb.length d9] (setMany wl3 (wx2.heap.size) 0 [.int .i64 s2.pc, .slice a7 yr.length d7, .slice a8 ya.length d8, .slice a9 yb.length d9]) 0
      have hR := setMany_row [.int .i64 s2.pc, .slice a7 yr.length d7, .slice a8 ya.length d8, .slice a9 yb.length d9] bR2 rfl
      have hl := hEh.out.lt
      have hA := hAh.out
      have hM2 := (hMh.out.kp k1 (fun b e => by omega)).kp k2 (fun b e => .inl (by have := N2.size; omega))
      have hbl : ∀ b, ve.ownBlock = some b → b ≠ wx2.heap.size := fun b hb e => by have h3 := hA b hb; have h4 := hlt.out b hb; simp [Value.ownBlock] at h3; omega
      have hbr : ∀ b, ve.ownBlock = some b → b ≠ w.heap.size + 1 + 1 := fun b hb e => by have h3 := hA b hb; simp [Value.ownBlock] at h3; omega
      have hE2 := (hEh.out.kp k1 (fun b hb e => hbl b hb e)).kp k2 (fun b hb e => hbr b hb e)
      rw [← hs3.out] at hM2
      refine bodyPost_ret (v := .tuple #[.agg #[.int .i64 s2.pc, .slice a7 yr.length d7, .slice a8 ya.length d8, .slice a9 yb.length d9], ve, .bool true]) (results_cell_tmp2 rfl _ _ _ _ _ _ _ _ _ rfl rfl rfl hR Try.underlying31 rfl (by kernel_rfl)) rfl ?_
      rw [ins_nat hp, ← hs3.out]
      have hqs : wc1.heap.size ≤ (setMany (setMany wl3 (wx2.heap.size) 0 [.int .i64 s2.pc, .slice a7 yr.length d7, .slice a8 ya.length d8, .slice a9 yb.length d9]) (w.heap.size + 1 + 1) 0 [.int .i64 s2.pc, .slice a7 yr.length d7, .slice a8 ya.length d8, .slice a9 yb.length d9]).heap.size := by omega
      exact Ret.full D.out rfl (New.one (New.one Nl3 k1 (by omega)) k2 (by omega)) hM2 (by have := N2.size; omega) hqs hE2 (fun b hb => by have h3 := hA b hb; simp [Value.ownBlock] at h3; omega)
    · go_simp
      have hnl4 : New wc1 (wc1.alloc (.cells #[.int .i64 0, .slice none 0 0, .slice none 0 0, .slice none 0 0] 31)) := (show New wc1 (wc1.alloc (.cells #[.int .i64 0, .slice none 0 0, .slice none 0 0, .slice none 0 0] 31)) from (Kp.refl _ _).alloc _)
      have zl4 : wc1.heap.size < (wc1.alloc (.cells #[.int .i64 0, .slice none 0 0, .slice none 0 0, .slice none 0 0] 31)).heap.size := (show wc1.heap.size < (wc1.alloc (.cells #[.int .i64 0, .slice none 0 0, .slice none 0 0, .slice none 0 0] 31)).heap.size from Rec.lt_alloc _ _)
      have Nl4 := Nc1.trans hnl4
      have bCl4 := heap_new hnl4 bCc1
      have bMl4 := heap_new hnl4 bMc1
      have bRl4 := heap_new hnl4 bRc1
      have bBl4 : (wc1.alloc (.cells #[.int .i64 0, .slice none 0 0, .slice none 0 0, .slice none 0 0] 31)).heap[wc1.heap.size]? = some (.cells #[.int .i64 0, .slice none 0 0, .slice none 0 0, .slice none 0 0] 31) := (show (wc1.alloc (.cells #[.int .i64 0, .slice none 0 0, .slice none 0 0, .slice none 0 0] 31)).heap[wc1.heap.size]? = _ from alloc_heap _ _)
      generalize (wc1.alloc (.cells #[.int .i64 0, .slice none 0 0, .slice none 0 0, .slice none 0 0] 31)) = wl4 at *
      obtain ⟨l4C0, l4C1, l4C2⟩ := cells3 bCl4
      obtain ⟨l4M0, l4M1, l4M2, l4M3⟩ := cells4 bMl4
      refine hK.out _ _ ?_ (fun hHeld2 => ?_)
      · exact ⟨l4C0, l4C1, l4C2, l4M0, l4M1, l4M2, l4M3⟩
      clear hK K hHeld
      have hHeld := hHeld2
      clear hHeld2
      try simp only [AP]
      refine AnyK.step (i := 3) (by kernel_rfl) rfl (fun K hK => ?_)
      go_simp
      refine (StepX.exec wl4 w1.drew.heap.size wc1.heap.size wc1.heap.size lo hi p w.heap.size _ _ _ _ _ _ (.slice none 0 0) xa xb yr ya x yb [] (hsa.out.new h1 Nl4) (hsb.out.new h1 Nl4) (hs.out.new h1 Nl4) (by have := Nl4.size; omega) (MachH.of (hqh.out.new (Nat.le_refl _) hnl4)) (by have := zc1; omega) (OwnF.nil _ _ _) (fun b hb => by simp [Value.ownBlock] at hb) (by have := Nl4.size; omega) (by simp) hp hcl (hch.out.view p hp) hkh.out (by omega)).mono ?_
      rintro e wx5 ⟨ve, rfl, hnx5, hM, hE, hA⟩
      have zx5 := hnx5.size
      have Nx5 := New.on Nl4 hnx5 (fun i e => by simp [Value.ownBlock] at e; have := N2.size; omega)
      have bCx5 := (hnx5.block _ (heap_lt bCl4) (fun e => by simp [Value.ownBlock] at e; have := N2.size; omega)).trans bCl4
      have bMx5 := (hnx5.block _ (heap_lt bMl4) (fun e => by simp [Value.ownBlock] at e; have := N2.size; omega)).trans bMl4
      have bRx5 := (hnx5.block _ (heap_lt bRl4) (fun e => by simp [Value.ownBlock] at e; have := N2.size; omega)).trans bRl4
      have bBx5 := (hnx5.block _ (heap_lt bBl4) (fun e => by simp [Value.ownBlock] at e <;> omega)).trans bBl4
      have hMh := Lib.hid hM.toO
      have hEh := Lib.hid hE
      have hAh := Lib.hid hA
      have hlt := Lib.hid hE.lt
      clear hM hE hA
      obtain ⟨x5C0, x5C1, x5C2⟩ := cells3 bCx5
      obtain ⟨x5M0, x5M1, x5M2, x5M3⟩ := cells4 bMx5
      refine hK.out _ _ ?_ (fun hHeld2 => ?_)
      · exact ⟨x5C0, x5C1, x5C2, x5M0, x5M1, x5M2, x5M3⟩
      clear hK K hHeld
      have hHeld := hHeld2
      clear hHeld2
      try simp only [AP]
      refine AnyK.tw 4 rfl ?_
      try simp only [AP]
      refine AnyK.tw 5 rfl ?_
      try simp only [AP]
      refine AnyK.tw 6 rfl ?_
      try simp only [AP]
      refine AnyK.last (by kernel_rfl) ?_
      simp only [List.drop_succ_cons, List.drop_zero]
      clear hHeld
      obtain ⟨s2, hs2⟩ : ∃ s2, s2 = (eff x[p] ⟨p, yr, ya, yb⟩).1 := ⟨_, rfl⟩
      have hs3 := Lib.hid hs2
      rw [← hs3.out]
      clear hs2
      obtain ⟨e0, e1, e2, e3⟩ := cells4 bBx5
      have ef := frozen_of_heap bBx5
      have bl := heap_lt bBx5
      obtain ⟨r0, r1, r2, r3⟩ := cells4 bRx5
      have rf := frozen_of_heap bRx5
      have rl := heap_lt bRx5
      have hne : w.heap.size + 1 + 1 < wc1.heap.size := by have := N2.size; omega
      go_wp2
      have k1 := setMany_kp (wc1.heap.size) [.int .i64 s2.pc, .slice a7 yr.length d7, .slice a8 ya.length d8, .slice a9 yb.length d9] wx5 0
      have y1 := setMany_size (wc1.heap.size) [.int .i64 s2.pc, .slice a7 yr.length d7, .slice a8 ya.length d8, .slice a9 yb.length d9] wx5 0
      have bR2 := setMany_other [.int .i64 s2.pc, .slice a7 yr.length d7, .slice a8 ya.length d8, .slice a9 yb.length d9] 0 bRx5 (show w.heap.size + 1 + 1 ≠ wc1.heap.size by omega)
      have k2 := setMany_kp (w.heap.size + 1 + 1) [.int .i64 s2.pc, .slice a7 yr.length d7, .slice a8 ya.length d8, .slice a9 yb.length d9] (setMany wx5 (wc1.heap.size) 0 [.int .i64 s2.pc, .slice a7 yr.length d7, .slice a8 ya.length d8, .slice a9 yb.length d9]) 0
      have y2 := setMany_size (w.heap.size + 1 + 1) [.int .i64 s2.pc, .slice a7 yr.length d7, .slice a8 ya.length d8, .slice a9 yb.length d9] (setMany wx5 (wc1.heap.size) 0 [.int .i64 s2.pc, .slice a7 yr.length d7, .slice a8 ya.length d8, .slice a9 yb.length d9]) 0
      have hR := setMany_row [.int .i64 s2.pc, .slice a7 yr.length d7, .slice a8 ya.length d8, .slice a9 yb.length d9] bR2 rfl
      have hl := hEh.out.lt
      have hA := hAh.out
      have hM2 := (hMh.out.kp k1 (fun b e => by omega)).kp k2 (fun b e => .inl (by have := N2.size; omega))
      have hbl : ∀ b, ve.ownBlock = some b → b ≠ wc1.heap.size := fun b hb e => by have h3 := hA b hb; have h4 := hlt.out b hb; simp [Value.ownBlock] at h3; omega
      have hbr : ∀ b, ve.ownBlock = some b → b ≠ w.heap.size + 1 + 1 := fun b hb e => by have h3 := hA b hb; simp [Value.ownBlock] at h3; omega
      have hE2 := (hEh.out.kp k1 (fun b hb e => hbl b hb e)).kp k2 (fun b hb e => hbr b hb e)
      rw [← hs3.out] at hM2
      refine bodyPost_ret (v := .tuple #[.agg #[.int .i64 s2.pc, .slice a7 yr.length d7, .slice a8 ya.length d8, .slice a9 yb.length d9], ve, .bool true]) (results_cell_tmp2 rfl _ _ _ _ _ _ _ _ _ rfl rfl rfl hR Try.underlying31 rfl (by kernel_rfl)) rfl ?_
      rw [ins_nat hp, ← hs3.out]
      have hqs : wc1.heap.size ≤ (setMany (setMany wx5 (wc1.heap.size) 0 [.int .i64 s2.pc, .slice a7 yr.length d7, .slice a8 ya.length d8, .slice a9 yb.length d9]) (w.heap.size + 1 + 1) 0 [.int .i64 s2.pc, .slice a7 yr.length d7, .slice a8 ya.length d8, .slice a9 yb.length d9]).heap.size := by omega
      exact Ret.full D.out rfl (New.one (New.one Nx5 k1 (by omega)) k2 (by omega)) hM2 (by have := N2.size; omega) hqs hE2 (fun b hb => by have h3 := hA b hb; simp [Value.ownBlock] at h3; omega)
  · go_simp
    have hnl6 : New w1.drew (w1.alloc (.cells #[.int .i64 0, .slice none 0 0, .slice none 0 0, .slice none 0 0] 31)).drew := (show New w1.drew (w1.drew.alloc (.cells #[.int .i64 0, .slice none 0 0, .slice none 0 0, .slice none 0 0] 31)) from (Kp.refl _ _).alloc _)
    have zl6 : w1.drew.heap.size < (w1.alloc (.cells #[.int .i64 0, .slice none 0 0, .slice none 0 0, .slice none 0 0] 31)).drew.heap.size := (show w1.drew.heap.size < (w1.drew.alloc (.cells #[.int .i64 0, .slice none 0 0, .slice none 0 0, .slice none 0 0] 31)).heap.size from Rec.lt_alloc _ _)
    have Nl6 := N2.trans hnl6
    have bCl6 := heap_new hnl6 bC_2
    have bMl6 := heap_new hnl6 bM_2
    have bRl6 := heap_new hnl6 bR_2
    have bBl6 : (w1.alloc (.cells #[.int .i64 0, .slice none 0 0, .slice none 0 0, .slice none 0 0] 31)).drew.heap[w1.heap.size]? = some (.cells #[.int .i64 0, .slice none 0 0, .slice none 0 0, .slice none 0 0] 31) := (show (w1.drew.alloc (.cells #[.int .i64 0, .slice none 0 0, .slice none 0 0, .slice none 0 0] 31)).heap[w1.drew.heap.size]? = _ from alloc_heap _ _)
    generalize (w1.alloc (.cells #[.int .i64 0, .slice none 0 0, .slice none 0 0, .slice none 0 0] 31)).drew = wl6 at *
    obtain ⟨l6C0, l6C1, l6C2⟩ := cells3 bCl6
    obtain ⟨l6M0, l6M1, l6M2, l6M3⟩ := cells4 bMl6
    refine hK.out _ _ ?_ (fun hHeld2 => ?_)
    · exact ⟨l6C0, l6C1, l6C2, l6M0, l6M1, l6M2, l6M3⟩
    clear hK K hHeld
    have hHeld := hHeld2
    clear hHeld2
    try simp only [AP]
    refine AnyK.step (i := 2) (by kernel_rfl) rfl (fun K hK => ?_)
    go_simp
    refine (CopyS.l6Copy _ lo' hi' _ _ _ _ _ _ _ (hrr.out.new h2 Nl6) (hra.out.new h2 Nl6) (hrb.out.new h2 Nl6) (by have := Nl6.size; omega) mr m0 m1 m2).mono ?_
    rintro e wc7 ⟨u1, u2, u3, rfl, hnc7, hq⟩
    obtain ⟨⟨a7, d7, e7⟩, ⟨a8, d8, e8⟩, a9, d9, e9⟩ := hq.toR.lens
    subst e7; subst e8; subst e9
    have hqh := Lib.hid hq
    clear hq
    have zc7 := hnc7.size
    have Nc7 := Nl6.trans hnc7
    have bCc7 := heap_new hnc7 bCl6
    have bMc7 := heap_new hnc7 bMl6
    have bRc7 := heap_new hnc7 bRl6
    have bBc7 := heap_new hnc7 bBl6
    obtain ⟨c7C0, c7C1, c7C2⟩ := cells3 bCc7
    obtain ⟨c7M0, c7M1, c7M2, c7M3⟩ := cells4 bMc7
    refine hK.out _ _ ?_ (fun hHeld2 => ?_)
    · exact ⟨c7C0, c7C1, c7C2, c7M0, c7M1, c7M2, c7M3⟩
    clear hK K hHeld
    have hHeld := hHeld2
    clear hHeld2
    try simp only [AP]
    refine AnyK.step (i := 3) (by kernel_rfl) rfl (fun K hK => ?_)
    go_simp
    refine (StepX.exec wc7 wl6.heap.size wc7.heap.size wc7.heap.size lo hi p w.heap.size _ _ _ _ _ _ (.slice none 0 0) xa xb yr ya x yb [] (hsa.out.new h1 Nc7) (hsb.out.new h1 Nc7) (hs.out.new h1 Nc7) (by have := Nc7.size; omega) (MachH.of hqh.out) (by have := zc7; omega) (OwnF.nil _ _ _) (fun b hb => by simp [Value.ownBlock] at hb) (by have := Nc7.size; omega) (by simp) hp hcl (hch.out.view p hp) hkh.out (by omega)).mono ?_
    rintro e wx8 ⟨ve, rfl, hnx8, hM, hE, hA⟩
    have zx8 := hnx8.size
    have Nx8 := New.on Nc7 hnx8 (fun i e => by simp [Value.ownBlock] at e; have := N2.size; omega)
    have bCx8 := (hnx8.block _ (heap_lt bCc7) (fun e => by simp [Value.ownBlock] at e; have := N2.size; omega)).trans bCc7
    have bMx8 := (hnx8.block _ (heap_lt bMc7) (fun e => by simp [Value.ownBlock] at e; have := N2.size; omega)).trans bMc7
    have bRx8 := (hnx8.block _ (heap_lt bRc7) (fun e => by simp [Value.ownBlock] at e; have := N2.size; omega)).trans bRc7
    have bBx8 := (hnx8.block _ (heap_lt bBc7) (fun e => by simp [Value.ownBlock] at e <;> omega)).trans bBc7
    have hMh := Lib.hid hM.toO
    have hEh := Lib.hid hE
    have hAh := Lib.hid hA
    have hlt := Lib.hid hE.lt
    clear hM hE hA
    obtain ⟨x8C0, x8C1, x8C2⟩ := cells3 bCx8
    obtain ⟨x8M0, x8M1, x8M2, x8M3⟩ := cells4 bMx8
    refine hK.out _ _ ?_ (fun hHeld2 => ?_)
    · exact ⟨x8C0, x8C1, x8C2, x8M0, x8M1, x8M2, x8M3⟩
    clear hK K hHeld
    have hHeld := hHeld2
    clear hHeld2
    try simp only [AP]
    refine AnyK.tw 4 rfl ?_
    try simp only [AP]
    refine AnyK.tw 5 rfl ?_
    try simp only [AP]
    refine AnyK.tw 6 rfl ?_
    try simp only [AP]
    refine AnyK.last (by kernel_rfl) ?_
    simp only [List.drop_succ_cons, List.drop_zero]
    clear hHeld
    obtain ⟨s2, hs2⟩ : ∃ s2, s2 = (eff x[p] ⟨p, yr, ya, yb⟩).1 := ⟨_, rfl⟩
    have hs3 := Lib.hid hs2
    rw [← hs3.out]
    clear hs2
    obtain ⟨e0, e1, e2, e3⟩ := cells4 bBx8
    have ef := frozen_of_heap bBx8
    have bl := heap_lt bBx8
    obtain ⟨r0, r1, r2, r3⟩ := cells4 bRx8
    have rf := frozen_of_heap bRx8
    have rl := heap_lt bRx8
    have hne : w.heap.size + 1 + 1 < w1.heap.size := by have := N2.size; omega
    go_wp2
    have k1 := setMany_kp (w1.heap.size) [.int .i64 s2.pc, .slice a7 yr.length d7, .slice a8 ya.length d8, .slice a9 yb.length d9] wx8 0
    have y1 := setMany_size (w1.heap.size) [.int .i64 s2.pc, .slice a7 yr.length d7, .slice a8 ya.length d8, .slice a9 yb.length d9] wx8 0
    have bR2 := setMany_other [.int .i64 s2.pc, .slice a7 yr.length d7, .slice a8 ya.length d8, .slice a9 yb.length d9] 0 bRx8 (show w.heap.size + 1 + 1 ≠ w1.heap.size by omega)
    have k2 := setMany_kp (w.heap.size + 1 + 1) [.int .i64 s2.pc, .slice a7 yr.length d7, .slice a8 ya.length d8, .slice a9 yb.length d9] (setMany wx8 (w1.heap.size) 0 [.int .i64 s2.pc, .slice a7 yr.length d7, .slice a8 ya.length d8, .slice a9 yb.length d9]) 0
    have y2 := setMany_size (w.heap.size + 1 + 1) [.int .i64 s2.pc, .slice a7 yr.length d7, .slice a8 ya.length d8, .slice a9 yb.length d9] (setMany wx8 (w1.heap.size) 0 [.int .i64 s2.pc, .slice a7 yr.length d7, .slice a8 ya.length d8, .slice a9 yb.length d9]) 0
    have hR := setMany_row [.int .i64 s2.pc, .slice a7 yr.length d7, .slice a8 ya.length d8, .slice a9 yb.length d9] bR2 rfl
    have hl := hEh.out.lt
    have hA := hAh.out
    have hM2 := (hMh.out.kp k1 (fun b e => by omega)).kp k2 (fun b e => .inl (by have := N2.size; omega))
    have hbl : ∀ b, ve.ownBlock = some b → b ≠ w1.heap.size := fun b hb e => by have h3 := hA b hb; have h4 := hlt.out b hb; simp [Value.ownBlock] at h3; omega
    have hbr : ∀ b, ve.ownBlock = some b → b ≠ w.heap.size + 1 + 1 := fun b hb e => by have h3 := hA b hb; simp [Value.ownBlock] at h3; omega
    have hE2 := (hEh.out.kp k1 (fun b hb e => hbl b hb e)).kp k2 (fun b hb e => hbr b hb e)
    rw [← hs3.out] at hM2
    refine bodyPost_ret (v := .tuple #[.agg #[.int .i64 s2.pc, .slice a7 yr.length d7, .slice a8 ya.length d8, .slice a9 yb.length d9], ve, .bool true]) (results_cell_tmp2 rfl _ _ _ _ _ _ _ _ _ rfl rfl rfl hR Try.underlying31 rfl (by kernel_rfl)) rfl ?_
    rw [ins_nat hp, ← hs3.out]
    have hqs : wc7.heap.size ≤ (setMany (setMany wx8 (w1.heap.size) 0 [.int .i64 s2.pc, .slice a7 yr.length d7, .slice a8 ya.length d8, .slice a9 yb.length d9]) (w.heap.size + 1 + 1) 0 [.int .i64 s2.pc, .slice a7 yr.length d7, .slice a8 ya.length d8, .slice a9 yb.length d9]).heap.size := by omega
    exact Ret.full D.out rfl (New.one (New.one Nx8 k1 (by omega)) k2 (by omega)) hM2 (by have := N2.size; omega) hqs hE2 (fun b hb => by have h3 := hA b hb; simp [Value.ownBlock] at h3; omega)
end Go.Proofs.Ytljokgoghphgdaa.StepC

/- StepMachine of both in the words of the laws. Conditions: bounds on the lengths. -/
namespace Go.Proofs.Ytljokgoghphgdaa.StepM2
open Go.RowKit Kit Step StepK Val MarkC RunP StepC
set_option linter.unusedVariables false
theorem implA (w : World) (lo hi lo' hi' : Nat) (ta tb tc vr va vb : Value) (pc : Int) (xa xb yr ya : List Int) (x : List Ins) (yb : List (List Int)) (sa : IntsR w lo hi ta xa) (sb : IntsR w lo hi tb xb) (s : InssR w lo hi tc x) (h1 : hi ≤ w.heap.size) (hO : MachO w lo' hi' vr va vb yr ya yb) (h2 : hi' ≤ w.heap.size)
    (mr : yr.length ≤ 1099511627776) (m0 : ya.length ≤ 1099511627776) (m1 : yb.length ≤ 1073741824) (m2 : ∀ x ∈ yb, x.length ≤ 1099511627776) {t : Bool} {z : Ms} {zl : List Ev} (ht : machB xa xb x pc yr ya yb = t) (hz : out t (eff (ins x pc) ⟨pc, yr, ya, yb⟩).1 = z) (hl : Rec.pk t ((5, pc) :: (eff (ins x pc) ⟨pc, yr, ya, yb⟩).2) = zl) :
    Calls Try.prog 15 #[.agg #[ta, tb, tc], .agg #[.int .i64 pc, vr, va, vb]] w (Post w t z zl) :=
  (implS w lo hi lo' hi' ta tb tc vr va vb pc xa xb yr ya x yb sa sb s h1 hO h2 mr m0 m1 m2).mono fun _ _ h => by rw [ht] at h; exact h.post hz hl
theorem specA (w : World) (lo hi lo' hi' : Nat) (ta tb tc vr va vb : Value) (pc : Int) (xa xb yr ya : List Int) (x : List Ins) (yb : List (List Int)) (sa : IntsR w lo hi ta xa) (sb : IntsR w lo hi tb xb) (s : InssR w lo hi tc x) (h1 : hi ≤ w.heap.size) (rr : IntsR w lo' hi' vr yr) (ra : IntsR w lo' hi' va ya) (rb : MatR w lo' hi' vb yb) (h2 : hi' ≤ w.heap.size)
    (mr : yr.length ≤ 1099511627776) (m0 : ya.length ≤ 1099511627776) (m1 : yb.length ≤ 1073741824) (m2 : ∀ x ∈ yb, x.length ≤ 1099511627776) {t : Bool} {z : Ms} {zl : List Ev} (ht : machB xa xb x pc yr ya yb = t) (hz : out t (eff (ins x pc) ⟨pc, yr, ya, yb⟩).1 = z) (hl : Rec.pk t ((5, pc) :: (eff (ins x pc) ⟨pc, yr, ya, yb⟩).2) = zl) :
    Calls Try.prog 16 #[.agg #[ta, tb, tc], .agg #[.int .i64 pc, vr, va, vb]] w (Post w t z zl) :=
  (specS w lo hi lo' hi' ta tb tc vr va vb pc xa xb yr ya x yb sa sb s h1 rr ra rb h2 mr m0 m1 m2).mono fun _ _ h => by rw [ht] at h; exact h.post hz hl
end Go.Proofs.Ytljokgoghphgdaa.StepM2
