/- StepMachine of the program and of the reference. Conditions: bounds on the lengths. -/
import Derived.Test.YtbicpkmlionldaaVStepW
import Derived.Test.YtbicpkmlionldaaVStepX
import Derived.Test.YtbicpkmlionldaaVP5
import Derived.Test.YtbicpkmlionldaaVRunP
import Derived.Test.YtbicpkmlionldaaVStartC
import Derived.Test.YtbicpkmlionldaaVP1
namespace Go.Proofs.Ytbicpkmlionldaa.StepC
open Go.RowKit Kit Step StepK Val MarkC RunP
set_option linter.unusedVariables false
/-- what StepMachine returns -/
def Ret (w : World) (t : Bool) (s : Ms) (l : List Ev) (e : Ending) (w' : World) : Prop := ∃ vr ua ub ve p q, e = .returned (.tuple #[.agg #[.int .i64 (out t s).pc, vr, ua, ub], ve, .bool t]) ∧ New w w' ∧ MachO w' p q vr ua ub (out t s).r (out t s).v (out t s).a ∧ w.heap.size ≤ p ∧ q ≤ w'.heap.size ∧ OwnF 2 encE w' w.heap.size 68 ve (Rec.pk t l) ∧ ∀ b, ve.ownBlock = some b → b < p ∨ q ≤ b
theorem Ret.zero {w w' : World} {t : Bool} {s : Ms} {l : List Ev} {e : Ending} {ve : Value} (h : t = false) (he : e = .returned (.tuple #[.agg #[.int .i64 0, .slice none 0 0, .slice none 0 0, .slice none 0 0], ve, .bool false])) (k : New w w') (hO : OwnF 2 encE w' w.heap.size 68 ve []) : Ret w t s l e w' := by
  subst h
  exact ⟨_, _, _, _, w.heap.size, w.heap.size, he, k, StartC.nilO _ _ _ (Nat.le_refl _), Nat.le_refl _, k.size, hO, fun b _ => by omega⟩
theorem Ret.full {w w' : World} {t : Bool} {s : Ms} {l : List Ev} {e : Ending} {vr ua ub ve : Value} {p q : Nat} (h : t = true) (he : e = .returned (.tuple #[.agg #[.int .i64 s.pc, vr, ua, ub], ve, .bool true])) (k : New w w') (hO : MachO w' p q vr ua ub s.r s.v s.a) (hp : w.heap.size ≤ p) (hq : q ≤ w'.heap.size) (hE : OwnF 2 encE w' w.heap.size 68 ve l) (ha : ∀ b, ve.ownBlock = some b → b < p ∨ q ≤ b) : Ret w t s l e w' := by
  subst h; exact ⟨vr, ua, ub, ve, p, q, he, k, hO, hp, hq, hE, ha⟩
/-- the same, in the words of the laws -/
def Post (w : World) (t : Bool) (z : Ms) (zl : List Ev) (e : Ending) (w' : World) : Prop := ∃ vr ua ub ve p q r s, e = .returned (.tuple #[.agg #[.int .i64 z.pc, vr, ua, ub], ve, .bool t]) ∧ New w w' ∧ MachO w' p q vr ua ub z.r z.v z.a ∧ OwnR 2 encE w' r s 68 ve zl ∧ w.heap.size ≤ p ∧ q ≤ w'.heap.size ∧ w.heap.size ≤ r ∧ s ≤ w'.heap.size ∧ (s ≤ p ∨ q ≤ r)
theorem own_range {w : World} {base lo hi : Nat} {ve : Value} {l : List Ev} (h : OwnF 2 encE w base 68 ve l) (ha : ∀ b, ve.ownBlock = some b → b < lo ∨ hi ≤ b) (hb : base ≤ w.heap.size) (hlo : base ≤ lo) : ∃ r s, OwnR 2 encE w r s 68 ve l ∧ base ≤ r ∧ s ≤ w.heap.size ∧ (s ≤ lo ∨ hi ≤ r) := by
  rcases h.form with ⟨e1, e2⟩ | ⟨b, cap, cs, rfl, hb1, hb2, hb3, hh, hs, hc⟩
  · subst e1; subst e2
    exact ⟨base, base, ⟨OwnF.nil _ _ _, fun b hb => by simp [Value.ownBlock] at hb⟩, Nat.le_refl _, hb, .inl hlo⟩
  · have h1 := ha b (by simp [Value.ownBlock])
    have h2 := heap_lt hh
    refine ⟨b, b + 1, ⟨OwnF.mk' hh (Nat.le_refl _) hb2 hb3 hs hc, fun c hc => ?_⟩, hb1, h2, by omega⟩
    have : b = c := by simpa [Value.ownBlock] using hc
    omega
theorem Ret.post {w w' : World} {t : Bool} {s z : Ms} {l zl : List Ev} {e : Ending} (h : Ret w t s l e w') (hz : out t s = z) (hl : Rec.pk t l = zl) : Post w t z zl e w' := by
  obtain ⟨vr, ua, ub, ve, p, q, he, k, hO, h1, h2, hE, ha⟩ := h
  subst hz; subst hl
  obtain ⟨r, s, g1, g2, g3, g4⟩ := own_range hE ha k.size h1
  exact ⟨vr, ua, ub, ve, p, q, r, s, he, k, hO, g1, h1, h2, g2, g3, g4⟩
/-- how great what comes back may be -/
theorem bounds {xa xb yr ya : List Int} {x : List Ins} {yb : List (List Int)} {pc : Int} {t : Bool} {z : Ms} {zl : List Ev} (ht : machB xa xb x pc yr ya yb = t) (hz : out t (eff (ins x pc) ⟨pc, yr, ya, yb⟩).1 = z) (hl : Rec.pk t ((5, pc) :: (eff (ins x pc) ⟨pc, yr, ya, yb⟩).2) = zl) : z.r.length ≤ 14 ∧ z.v.length ≤ 12 ∧ msz z.a ≤ 12 ∧ zl.length ≤ 2 := by
  cases t with
  | false => subst hz; subst hl; simp [out, Rec.pk, msz]
  | true =>
    obtain ⟨p, rfl, hp, hc, hk, b1, b2⟩ := mach_ok ht
    have hv := hc.view p hp
    rw [ins_nat hp] at hz hl
    have h2 := eff_okm hv hk
    have h3 := eff_len hv ⟨p, yr, ya, yb⟩
    simp only [out, if_true] at hz
    rw [hz] at h2
    have q1 := h2.rl; have q2 := h2.vl; have q3 := h2.al
    refine ⟨by omega, by omega, msz_small h2.ar (by omega), ?_⟩
    subst hl
    simpa [Rec.pk] using h3.2
set_option maxHeartbeats 4000000 in
set_option maxRecDepth 100000 in
theorem implS (w : World) (lo hi lo' hi' : Nat) (ta tb tc vr va vb : Value) (pc : Int) (xa xb yr ya : List Int) (x : List Ins) (yb : List (List Int)) (sa : IntsR w lo hi ta xa) (sb : IntsR w lo hi tb xb) (s : InssR w lo hi tc x) (h1 : hi ≤ w.heap.size) (hO : MachO w lo' hi' vr va vb yr ya yb) (h2 : hi' ≤ w.heap.size)
    (mr : yr.length ≤ 1099511627776) (m0 : ya.length ≤ 1099511627776) (m1 : yb.length ≤ 1073741824) (m2 : ∀ x ∈ yb, x.length ≤ 1099511627776) :
    Calls Try.prog 12 #[.agg #[ta, tb, tc], .agg #[.int .i64 pc, vr, va, vb]] w (Ret w (machB xa xb x pc yr ya yb) (eff (ins x pc) ⟨pc, yr, ya, yb⟩).1 ((5, pc) :: (eff (ins x pc) ⟨pc, yr, ya, yb⟩).2)) := by
  obtain ⟨a1, d1, rfl, l1⟩ := sa.len
  obtain ⟨a2, d2, rfl, l2⟩ := sb.len
  obtain ⟨a3, d3, rfl, l3⟩ := s.len
  obtain ⟨⟨a4, d4, rfl⟩, ⟨a5, d5, rfl⟩, a6, d6, rfl⟩ := hO.toR.lens
  have hOh := Lib.hid hO
  have hsa := Lib.hid sa
  have hsb := Lib.hid sb
  have hs := Lib.hid s
  clear hO sa sb s
  go_enter Try.func12, Try.ntmps12
  go_wp2_with fail
  have N0 : New w (((w.alloc (.cells #[.slice a1 xa.length d1, .slice a2 xb.length d2, .slice a3 x.length d3] 26)).alloc (.cells #[.int .i64 pc, .slice a4 yr.length d4, .slice a5 ya.length d5, .slice a6 yb.length d6] 38)).alloc (.cells #[.int .i64 0, .slice none 0 0, .slice none 0 0, .slice none 0 0] 38)) := ((((Kp.refl _ _).alloc _).alloc _).alloc _)
  have bC_0 : (((w.alloc (.cells #[.slice a1 xa.length d1, .slice a2 xb.length d2, .slice a3 x.length d3] 26)).alloc (.cells #[.int .i64 pc, .slice a4 yr.length d4, .slice a5 ya.length d5, .slice a6 yb.length d6] 38)).alloc (.cells #[.int .i64 0, .slice none 0 0, .slice none 0 0, .slice none 0 0] 38)).heap[w.heap.size]? = some (.cells #[.slice a1 xa.length d1, .slice a2 xb.length d2, .slice a3 x.length d3] 26) := heap_old (heap_old (alloc_heap _ _))
  have bM_0 : (((w.alloc (.cells #[.slice a1 xa.length d1, .slice a2 xb.length d2, .slice a3 x.length d3] 26)).alloc (.cells #[.int .i64 pc, .slice a4 yr.length d4, .slice a5 ya.length d5, .slice a6 yb.length d6] 38)).alloc (.cells #[.int .i64 0, .slice none 0 0, .slice none 0 0, .slice none 0 0] 38)).heap[w.heap.size + 1]? = some (.cells #[.int .i64 pc, .slice a4 yr.length d4, .slice a5 ya.length d5, .slice a6 yb.length d6] 38) := heap_old (heap_at (by simp))
  have bR_0 : (((w.alloc (.cells #[.slice a1 xa.length d1, .slice a2 xb.length d2, .slice a3 x.length d3] 26)).alloc (.cells #[.int .i64 pc, .slice a4 yr.length d4, .slice a5 ya.length d5, .slice a6 yb.length d6] 38)).alloc (.cells #[.int .i64 0, .slice none 0 0, .slice none 0 0, .slice none 0 0] 38)).heap[w.heap.size + 1 + 1]? = some (.cells #[.int .i64 0, .slice none 0 0, .slice none 0 0, .slice none 0 0] 38) := heap_at (by simp)
  have z0 : w.heap.size + 1 + 1 < (((w.alloc (.cells #[.slice a1 xa.length d1, .slice a2 xb.length d2, .slice a3 x.length d3] 26)).alloc (.cells #[.int .i64 pc, .slice a4 yr.length d4, .slice a5 ya.length d5, .slice a6 yb.length d6] 38)).alloc (.cells #[.int .i64 0, .slice none 0 0, .slice none 0 0, .slice none 0 0] 38)).heap.size := by simp
  generalize (((w.alloc (.cells #[.slice a1 xa.length d1, .slice a2 xb.length d2, .slice a3 x.length d3] 26)).alloc (.cells #[.int .i64 pc, .slice a4 yr.length d4, .slice a5 ya.length d5, .slice a6 yb.length d6] 38)).alloc (.cells #[.int .i64 0, .slice none 0 0, .slice none 0 0, .slice none 0 0] 38)) = w0 at *
  obtain ⟨bC_0_c0, bC_0_c1, bC_0_c2⟩ := cells3 bC_0
  obtain ⟨bM_0_c0, bM_0_c1, bM_0_c2, bM_0_c3⟩ := cells4 bM_0
  obtain ⟨bR_0_c0, bR_0_c1, bR_0_c2, bR_0_c3⟩ := cells4 bR_0
  refine (MachV.implV (hsa.out.new h1 N0) (hsb.out.new h1 N0) (hs.out.new h1 N0) (hOh.out.toR.1.new h2 N0) (hOh.out.toR.2.1.new h2 N0) (hOh.out.toR.2.2.new h2 N0) (by omega) (by omega)).mono ?_
  rintro e w1 ⟨rfl, hn1⟩
  have z1 := hn1.size
  have N1 : New w w1 := N0.trans hn1
  have bC_1 := heap_new hn1 bC_0
  have bM_1 := heap_new hn1 bM_0
  have bR_1 := heap_new hn1 bR_0
  clear bC_0_c0 bC_0_c1 bC_0_c2 bM_0_c0 bM_0_c1 bM_0_c2 bM_0_c3 bR_0_c0 bR_0_c1 bR_0_c2 bR_0_c3
  clear bC_0 bM_0 bR_0 hn1
  cases q1 : machB xa xb x pc yr ya yb
  · have D := Lib.hid q1
    clear q1
    obtain ⟨e0_, e1_, e2_, e3_⟩ := cells4 bR_1
    have ef_ := frozen_of_heap bR_1
    go_wp2
    have hkz := setMany_kp (w.heap.size + 1 + 1) [.int .i64 0, .slice none 0 0, .slice none 0 0, .slice none 0 0] w1 0
    have hR := setMany_row [.int .i64 0, .slice none 0 0, .slice none 0 0, .slice none 0 0] bR_1 rfl
    exact bodyPost_ret (results_cell_tmp2 rfl _ _ _ _ _ _ _ _ _ rfl rfl rfl hR Try.underlying38 rfl (by kernel_rfl)) rfl (Ret.zero D.out rfl (New.one N1 hkz (by omega)) (OwnF.nil _ _ _))
  obtain ⟨p, rfl, hp, hc, hk, b1, b2⟩ := mach_ok q1
  have D := Lib.hid q1
  clear q1
  have hch := Lib.hid hc
  have hkh := Lib.hid hk
  have hcl := hc.len
  clear hc hk
  obtain ⟨bC_1_c0, bC_1_c1, bC_1_c2⟩ := cells3 bC_1
  obtain ⟨bM_1_c0, bM_1_c1, bM_1_c2, bM_1_c3⟩ := cells4 bM_1
  obtain ⟨bR_1_c0, bR_1_c1, bR_1_c2, bR_1_c3⟩ := cells4 bR_1
  go_wp2_with fail
  clear bC_1_c0 bC_1_c1 bC_1_c2 bM_1_c0 bM_1_c1 bM_1_c2 bM_1_c3 bR_1_c0 bR_1_c1 bR_1_c2 bR_1_c3
  refine (CopyS.ownMach _ lo' hi' _ _ _ _ _ _ _ (hOh.out.new h2 N1) (by omega) mr m0 m1 m2).mono ?_
  rintro e w2 ⟨u1, u2, u3, rfl, hn2, hq⟩
  have z2 := hn2.size
  have N2 : New w w2 := N1.trans hn2
  have bC_2 := heap_new hn2 bC_1
  have bM_2 := heap_new hn2 bM_1
  have bR_2 := heap_new hn2 bR_1
  clear bC_1 bM_1 bR_1 hn2
  obtain ⟨⟨a7, d7, e7⟩, ⟨a8, d8, e8⟩, a9, d9, e9⟩ := hq.toR.lens
  subst e7; subst e8; subst e9
  have oQ_2 := hq
  clear hq
  have zq := z2
  have hn3 : New w2 (w2.alloc (.cells #[.int .i64 p, .slice a7 yr.length d7, .slice a8 ya.length d8, .slice a9 yb.length d9] 38)) := (Kp.refl _ _).alloc _
  have z3 : w2.heap.size < (w2.alloc (.cells #[.int .i64 p, .slice a7 yr.length d7, .slice a8 ya.length d8, .slice a9 yb.length d9] 38)).heap.size := by simp
  have N3 : New w (w2.alloc (.cells #[.int .i64 p, .slice a7 yr.length d7, .slice a8 ya.length d8, .slice a9 yb.length d9] 38)) := N2.trans hn3
  have bC_3 := heap_new hn3 bC_2
  have bM_3 := heap_new hn3 bM_2
  have bR_3 := heap_new hn3 bR_2
  have oQ_3 := oQ_2.new (by omega) hn3
  have bO_3 : (w2.alloc (.cells #[.int .i64 p, .slice a7 yr.length d7, .slice a8 ya.length d8, .slice a9 yb.length d9] 38)).heap[w2.heap.size]? = some (.cells #[.int .i64 p, .slice a7 yr.length d7, .slice a8 ya.length d8, .slice a9 yb.length d9] 38) := alloc_heap _ _
  clear bC_2 bM_2 bR_2 oQ_2 hn3
  obtain ⟨bC_3_c0, bC_3_c1, bC_3_c2⟩ := cells3 bC_3
  obtain ⟨bM_3_c0, bM_3_c1, bM_3_c2, bM_3_c3⟩ := cells4 bM_3
  obtain ⟨bR_3_c0, bR_3_c1, bR_3_c2, bR_3_c3⟩ := cells4 bR_3
  obtain ⟨bO_3_c0, bO_3_c1, bO_3_c2, bO_3_c3⟩ := cells4 bO_3
  go_wp2_with fail
  generalize (w2.alloc (.cells #[.int .i64 p, .slice a7 yr.length d7, .slice a8 ya.length d8, .slice a9 yb.length d9] 38)) = w3 at *
  refine (StepW.step w3 w1.heap.size w2.heap.size w2.heap.size lo hi p _ _ _ _ _ _ xa xb yr ya x yb (hsa.out.new h1 N3) (hsb.out.new h1 N3) (hs.out.new h1 N3) (by omega) bO_3 oQ_3 (.inr (by omega)) (by omega) hp hcl (hch.out.view p hp) hkh.out (by omega)).mono ?_
  rintro e w4 ⟨ve, rfl, hn4, bO_4, hM, hE⟩
  have bC_4 := (hn4.block _ (by omega) (by omega)).trans bC_3
  have bM_4 := (hn4.block _ (by omega) (by omega)).trans bM_3
  have bR_4 := (hn4.block _ (by omega) (by omega)).trans bR_3
  have z4 := hn4.size
  have N4 := New.on N3 hn4 (fun i e => by omega)
  clear bC_3_c0 bC_3_c1 bC_3_c2 bM_3_c0 bM_3_c1 bM_3_c2 bM_3_c3 bR_3_c0 bR_3_c1 bR_3_c2 bR_3_c3 bO_3_c0 bO_3_c1 bO_3_c2 bO_3_c3
  have hMh := Lib.hid hM
  have hEh := Lib.hid hE
  have hme := Lib.hid (ins_nat hp)
  have hEl := hE.lt
  clear hM hE
  obtain ⟨⟨_, _, _⟩, _⟩ : (True ∧ True ∧ True) ∧ True := ⟨⟨trivial, trivial, trivial⟩, trivial⟩
  obtain ⟨s2, hs2⟩ : ∃ s2, s2 = (eff x[p] ⟨p, yr, ya, yb⟩).1 := ⟨_, rfl⟩
  have hs3 := Lib.hid hs2
  rw [← hs2] at bO_4
  clear hs2
  obtain ⟨m0_, m1_, m2_, m3_⟩ := cells4 bO_4
  obtain ⟨e0_, e1_, e2_, e3_⟩ := cells4 bR_4
  have ef_ := frozen_of_heap bR_4
  have hnh := Lib.hid hn4
  clear hn4
  go_wp2
  have hkz := setMany_kp (w.heap.size + 1 + 1) [.int .i64 s2.pc, .slice a7 yr.length d7, .slice a8 ya.length d8, .slice a9 yb.length d9] w4 0
  have zs := setMany_size (w.heap.size + 1 + 1) [.int .i64 s2.pc, .slice a7 yr.length d7, .slice a8 ya.length d8, .slice a9 yb.length d9] w4 0
  have hR := setMany_row [.int .i64 s2.pc, .slice a7 yr.length d7, .slice a8 ya.length d8, .slice a9 yb.length d9] bR_4 rfl
  have hM2 := hMh.out.kp hkz (fun b e => .inl (by omega))
  have hE2 := (hEh.out.kp hkz (fun b hb e => by have := hEl b hb; omega)).mono (base' := w.heap.size) (by omega)
  rw [← hs3.out] at hM2
  refine bodyPost_ret (v := .tuple #[.agg #[.int .i64 s2.pc, .slice a7 yr.length d7, .slice a8 ya.length d8, .slice a9 yb.length d9], ve, .bool true]) (results_cell_tmp2 rfl _ _ _ _ _ _ _ _ _ rfl rfl rfl hR Try.underlying38 rfl (by kernel_rfl)) rfl ?_
  rw [hme.out, ← hs3.out]
  have hqs : w2.heap.size ≤ (setMany w4 (w.heap.size + 1 + 1) 0 [.int .i64 s2.pc, .slice a7 yr.length d7, .slice a8 ya.length d8, .slice a9 yb.length d9]).heap.size := by omega
  exact Ret.full D.out rfl (New.one N4 hkz (by omega)) hM2 (by omega) hqs hE2 (fun b hb => by have := hEl b hb; omega)
end Go.Proofs.Ytbicpkmlionldaa.StepC

/- StepMachine of both in the words of the laws. Conditions: bounds on the lengths. -/
namespace Go.Proofs.Ytbicpkmlionldaa.StepM2
open Go.RowKit Kit Step StepK Val MarkC RunP StepC
set_option linter.unusedVariables false
theorem implA (w : World) (lo hi lo' hi' : Nat) (ta tb tc vr va vb : Value) (pc : Int) (xa xb yr ya : List Int) (x : List Ins) (yb : List (List Int)) (sa : IntsR w lo hi ta xa) (sb : IntsR w lo hi tb xb) (s : InssR w lo hi tc x) (h1 : hi ≤ w.heap.size) (hO : MachO w lo' hi' vr va vb yr ya yb) (h2 : hi' ≤ w.heap.size)
    (mr : yr.length ≤ 1099511627776) (m0 : ya.length ≤ 1099511627776) (m1 : yb.length ≤ 1073741824) (m2 : ∀ x ∈ yb, x.length ≤ 1099511627776) {t : Bool} {z : Ms} {zl : List Ev} (ht : machB xa xb x pc yr ya yb = t) (hz : out t (eff (ins x pc) ⟨pc, yr, ya, yb⟩).1 = z) (hl : Rec.pk t ((5, pc) :: (eff (ins x pc) ⟨pc, yr, ya, yb⟩).2) = zl) :
    Calls Try.prog 12 #[.agg #[ta, tb, tc], .agg #[.int .i64 pc, vr, va, vb]] w (Post w t z zl) :=
  (implS w lo hi lo' hi' ta tb tc vr va vb pc xa xb yr ya x yb sa sb s h1 hO h2 mr m0 m1 m2).mono fun _ _ h => by rw [ht] at h; exact h.post hz hl
end Go.Proofs.Ytbicpkmlionldaa.StepM2
