/- RunCode of the program and of the reference. Conditions: bounds on the lengths. -/
import Derived.Test.YtbicpkmlionldaaVRunI
import Derived.Test.YtbicpkmlionldaaVStartC
import Derived.Test.YtbicpkmlionldaaVP1
namespace Go.Proofs.Ytbicpkmlionldaa.RunC
open Go.RowKit Kit Step StepK Val MarkC RunP RunI StartM
set_option linter.unusedVariables false
/-- the run from the start -/
def runR (xa xb : List Int) (x : List Ins) (ya : List Int) (yb : List (List Int)) : Option (Ms × List Ev) := if codeB xa xb x && fitB xa.length xb.length ya yb then run x 20000 ⟨0, zeros, ya, yb⟩ [] else none
theorem runR_no {xa xb : List Int} {x : List Ins} {ya : List Int} {yb : List (List Int)} (h : (codeB xa xb x && fitB xa.length xb.length ya yb) = false) : runR xa xb x ya yb = none := by
  rw [runR, h]; exact if_neg Bool.false_ne_true
theorem runR_yes {xa xb : List Int} {x : List Ins} {ya : List Int} {yb : List (List Int)} (h : (codeB xa xb x && fitB xa.length xb.length ya yb) = true) : runR xa xb x ya yb = run x 20000 ⟨((0 : Nat) : Int), zeros, ya, yb⟩ [] := by
  rw [runR, h]; exact if_pos rfl
theorem zeros_len : zeros.length = 14 := by simp [zeros]
theorem zeros_ok : okVs zeros = true := by decide
theorem start_ok {xa xb : List Int} {x : List Ins} {ya : List Int} {yb : List (List Int)} (h : (codeB xa xb x && fitB xa.length xb.length ya yb) = true) : Okc ya.length yb.length x ∧ Okm ya.length yb.length x.length ⟨((0 : Nat) : Int), zeros, ya, yb⟩ ∧ 0 < x.length ∧ ya.length ≤ 12 ∧ yb.length ≤ 2 := by
  rw [Bool.and_eq_true] at h
  have hm := okm_fit (nl := x.length) (pc := ((0 : Nat) : Int)) zeros_len zeros_ok h.2
  have hd := decl_bd h.1
  have hc := okc h.1
  have ea := hm.vl
  have eb := hm.al
  dsimp only at ea eb
  rw [ea, eb]
  exact ⟨hc, hm, hc.pos, hd.1, hd.2⟩
theorem bounds {xa xb : List Int} {x : List Ins} {ya : List Int} {yb : List (List Int)} {t : Bool} {z : Ms} {zl : List Ev} (ht : resT (runR xa xb x ya yb) = t) (hz : resZ (runR xa xb x ya yb) = z) (hl : resL (runR xa xb x ya yb) = zl) : z.v.length ≤ 12 ∧ msz z.a ≤ 12 ∧ zl.length ≤ 40000 := by
  subst hz; subst hl
  cases hr : runR xa xb x ya yb with
  | none => simp [resZ, resL, msz]
  | some q =>
    obtain ⟨s, l⟩ := q
    unfold runR at hr
    cases hv : (codeB xa xb x && fitB xa.length xb.length ya yb) with
    | false => rw [hv] at hr; simp at hr
    | true =>
      rw [hv, if_pos rfl] at hr
      obtain ⟨hc, hm, hp, b1, b2⟩ := start_ok hv
      obtain ⟨h1, h2⟩ := run_ok hc 20000 _ _ 0 s l hm rfl hp hr
      have q1 := h1.vl; have q2 := h1.al
      exact ⟨by simp only [resZ]; omega, msz_small h1.ar (by simp only [resZ]; omega), by simpa [resL] using h2⟩
/-- what RunCode returns -/
def Ret (w : World) (r : Option (Ms × List Ev)) (e : Ending) (w' : World) : Prop := ∃ ua ub ve p q, e = .returned (.tuple #[.agg #[ua, ub], ve, .bool (resT r)]) ∧ New w w' ∧ MemO w' p q ua ub (resZ r).v (resZ r).a ∧ w.heap.size ≤ p ∧ q ≤ w'.heap.size ∧ OwnF 2 encE w' w.heap.size 68 ve (resL r) ∧ ∀ b, ve.ownBlock = some b → b < p ∨ q ≤ b
theorem nilM (w : World) (lo : Nat) : MemO w lo lo (.slice none 0 0) (.slice none 0 0) [] [] := .of lo (Nat.le_refl _) (Nat.le_refl _) ⟨OwnF.nil _ _ _, fun b hb => by simp [Value.ownBlock] at hb⟩ (MatO.nil _ _ _ _ _)
theorem Ret.zero {w w' : World} {r : Option (Ms × List Ev)} {e : Ending} {ve : Value} (h : r = none) (he : e = .returned (.tuple #[.agg #[.slice none 0 0, .slice none 0 0], ve, .bool false])) (k : New w w') (hO : OwnF 2 encE w' w.heap.size 68 ve []) : Ret w r e w' := by
  subst h
  exact ⟨_, _, _, w.heap.size, w.heap.size, he, k, nilM _ _, Nat.le_refl _, k.size, hO, fun b _ => by omega⟩
theorem Ret.full {w w' : World} {r : Option (Ms × List Ev)} {s : Ms} {l : List Ev} {e : Ending} {ua ub ve : Value} {p q : Nat} (h : r = some (s, l)) (he : e = .returned (.tuple #[.agg #[ua, ub], ve, .bool true])) (k : New w w') (hO : MemO w' p q ua ub s.v s.a) (hp : w.heap.size ≤ p) (hq : q ≤ w'.heap.size) (hE : OwnF 2 encE w' w.heap.size 68 ve l) (ha : ∀ b, ve.ownBlock = some b → b < p ∨ q ≤ b) : Ret w r e w' := by
  subst h; exact ⟨ua, ub, ve, p, q, he, k, hO, hp, hq, hE, ha⟩
def Post (w : World) (t : Bool) (z : Ms) (zl : List Ev) (e : Ending) (w' : World) : Prop := ∃ ua ub ve p q r s, e = .returned (.tuple #[.agg #[ua, ub], ve, .bool t]) ∧ New w w' ∧ MemO w' p q ua ub z.v z.a ∧ OwnR 2 encE w' r s 68 ve zl ∧ w.heap.size ≤ p ∧ q ≤ w'.heap.size ∧ w.heap.size ≤ r ∧ s ≤ w'.heap.size ∧ (s ≤ p ∨ q ≤ r)
theorem Ret.post {w w' : World} {r : Option (Ms × List Ev)} {t : Bool} {z : Ms} {zl : List Ev} {e : Ending} (h : Ret w r e w') (ht : resT r = t) (hz : resZ r = z) (hl : resL r = zl) : Post w t z zl e w' := by
  obtain ⟨ua, ub, ve, p, q, he, k, hO, h1, h2, hE, ha⟩ := h
  subst ht; subst hz; subst hl
  obtain ⟨r, s, g1, g2, g3, g4⟩ := StepC.own_range hE ha k.size h1
  exact ⟨ua, ub, ve, p, q, r, s, he, k, hO, g1, h1, h2, g2, g3, g4⟩
/-- the memory of a machine of the call's own -/
theorem mem_of {w : World} {lo hi : Nat} {vr va vb : Value} {yr ya : List Int} {yb : List (List Int)} (h : MachO w lo hi vr va vb yr ya yb) : ∃ p q, lo ≤ p ∧ q ≤ hi ∧ MemO w p q va vb ya yb := by
  obtain ⟨p1, p2, p3, p4, q1, q2, q3, q4, q5, A, B⟩ := h
  exact ⟨p3, p4, q3, q4, B⟩
/-- what ran returns -/
def Ran (w : World) (r : Option (Ms × List Ev)) (e : Ending) (w' : World) : Prop := New w w' ∧ (r = none ∧ e = .returned (.tuple #[.pointer none, .slice none 0 0, .bool false]) ∨ ∃ s l b p q vr va vb v, r = some (s, l) ∧ e = .returned (.tuple #[.pointer (some ⟨b, 0, none⟩), v, .bool true]) ∧ w'.heap[b]? = some (.cells #[.int .i64 s.pc, vr, va, vb] 38 (0, 0)) ∧
  MachO w' p q vr va vb s.r s.v s.a ∧ w.heap.size ≤ p ∧ q ≤ w'.heap.size ∧ OwnF 2 encE w' w.heap.size 68 v l ∧ ∀ c, v.ownBlock = some c → q ≤ c)
set_option maxHeartbeats 4000000 in
set_option maxRecDepth 100000 in
theorem ran (w : World) (lo hi lo' hi' : Nat) (ta tb tc ma mb : Value) (xa xb ya : List Int) (x : List Ins) (yb : List (List Int)) (sa : IntsR w lo hi ta xa) (sb : IntsR w lo hi tb xb) (s : InssR w lo hi tc x) (h1 : hi ≤ w.heap.size) (hO : MemO w lo' hi' ma mb ya yb) (h2 : hi' ≤ w.heap.size)
    (m0 : ya.length ≤ 1099511627776) (m1 : yb.length ≤ 1073741824) (m2 : ∀ x ∈ yb, x.length ≤ 1099511627776) :
    Calls Try.prog 18 #[.agg #[ta, tb, tc], .agg #[ma, mb]] w (Ran w (runR xa xb x ya yb)) := by
  obtain ⟨a1, d1, rfl, l1⟩ := sa.len
  obtain ⟨a2, d2, rfl, l2⟩ := sb.len
  obtain ⟨a3, d3, rfl, l3⟩ := s.len
  obtain ⟨⟨a4, d4, rfl⟩, a5, d5, rfl⟩ := hO.lens
  have hOh := Lib.hid hO
  clear hO
  have hsa := Lib.hid sa
  have hsb := Lib.hid sb
  have hs := Lib.hid s
  clear sa sb s
  go_enter Try.func18, Try.ntmps18
  go_wp2_with fail
  have N0 : New w ((w.alloc (.cells #[.slice a1 xa.length d1, .slice a2 xb.length d2, .slice a3 x.length d3] 26)).alloc (.cells #[.slice a4 ya.length d4, .slice a5 yb.length d5] 29)) := (((Kp.refl _ _).alloc _).alloc _)
  have bC_0 : ((w.alloc (.cells #[.slice a1 xa.length d1, .slice a2 xb.length d2, .slice a3 x.length d3] 26)).alloc (.cells #[.slice a4 ya.length d4, .slice a5 yb.length d5] 29)).heap[w.heap.size]? = some (.cells #[.slice a1 xa.length d1, .slice a2 xb.length d2, .slice a3 x.length d3] 26) := heap_old (alloc_heap _ _)
  have bM_0 : ((w.alloc (.cells #[.slice a1 xa.length d1, .slice a2 xb.length d2, .slice a3 x.length d3] 26)).alloc (.cells #[.slice a4 ya.length d4, .slice a5 yb.length d5] 29)).heap[w.heap.size + 1]? = some (.cells #[.slice a4 ya.length d4, .slice a5 yb.length d5] 29) := heap_at (by simp)
  have z0 : w.heap.size + 1 < ((w.alloc (.cells #[.slice a1 xa.length d1, .slice a2 xb.length d2, .slice a3 x.length d3] 26)).alloc (.cells #[.slice a4 ya.length d4, .slice a5 yb.length d5] 29)).heap.size := by simp
  generalize ((w.alloc (.cells #[.slice a1 xa.length d1, .slice a2 xb.length d2, .slice a3 x.length d3] 26)).alloc (.cells #[.slice a4 ya.length d4, .slice a5 yb.length d5] 29)) = w0 at *
  obtain ⟨bC_0_c0, bC_0_c1, bC_0_c2⟩ := cells3 bC_0
  obtain ⟨bM_0_c0, bM_0_c1⟩ := cells2 bM_0
  obtain ⟨t, ht0⟩ : ∃ t, (codeB xa xb x && fitB xa.length xb.length ya yb) = t := ⟨_, rfl⟩
  have ht := Lib.hid ht0
  clear ht0
  go_wp2_with fail
  refine (StartC.implS _ lo hi lo' hi' _ _ _ _ _ _ _ _ _ _ (hsa.out.new h1 N0) (hsb.out.new h1 N0) (hs.out.new h1 N0) (by omega) (hOh.out.new h2 N0) (by omega) m0 m1 m2).mono ?_
  rintro e w1 ⟨vr, va, vb, rfl, hn1, hq⟩
  have z1 := hn1.size
  have N1 : New w w1 := N0.trans hn1
  have bC_1 := heap_new hn1 bC_0
  have bM_1 := heap_new hn1 bM_0
  clear bC_0_c0 bC_0_c1 bC_0_c2 bM_0_c0 bM_0_c1
  clear bC_0 bM_0 hn1
  rw [ht.out] at hq
  rw [ht.out]
  obtain ⟨⟨a6, d6, e6⟩, ⟨a7, d7, e7⟩, a8, d8, e8⟩ := hq.toR.lens
  subst e6; subst e7; subst e8
  cases t
  · clear hq
    go_wp2
    go_ret3
    refine ⟨N1.alloc _, .inl ⟨runR_no ht.out, rfl⟩⟩
  have oQ_1 : MachO _ _ _ _ _ _ zeros ya yb := hq
  clear hq
  obtain ⟨hc, hk, hp, b1, b2⟩ := start_ok ht.out
  have hch := Lib.hid hc
  have hkh := Lib.hid hk
  clear hc hk
  have hn2 : New w1 (w1.alloc (.cells #[.int .i64 0, .slice a6 (Rec.pk true zeros).length d6, .slice a7 (Rec.pk true ya).length d7, .slice a8 (Rec.pk true yb).length d8] 38)) := (Kp.refl _ _).alloc _
  have z2 : w1.heap.size < (w1.alloc (.cells #[.int .i64 0, .slice a6 (Rec.pk true zeros).length d6, .slice a7 (Rec.pk true ya).length d7, .slice a8 (Rec.pk true yb).length d8] 38)).heap.size := by simp
  have N2 : New w (w1.alloc (.cells #[.int .i64 0, .slice a6 (Rec.pk true zeros).length d6, .slice a7 (Rec.pk true ya).length d7, .slice a8 (Rec.pk true yb).length d8] 38)) := N1.trans hn2
  have bC_2 := heap_new hn2 bC_1
  have bM_2 := heap_new hn2 bM_1
  have oQ_2 := oQ_1.new (by omega) hn2
  have bS_2 : (w1.alloc (.cells #[.int .i64 0, .slice a6 (Rec.pk true zeros).length d6, .slice a7 (Rec.pk true ya).length d7, .slice a8 (Rec.pk true yb).length d8] 38)).heap[w1.heap.size]? = some (.cells #[.int .i64 0, .slice a6 (Rec.pk true zeros).length d6, .slice a7 (Rec.pk true ya).length d7, .slice a8 (Rec.pk true yb).length d8] 38) := alloc_heap _ _
  clear bC_1 bM_1 oQ_1 hn2
  obtain ⟨bC_2_c0, bC_2_c1, bC_2_c2⟩ := cells3 bC_2
  obtain ⟨bM_2_c0, bM_2_c1⟩ := cells2 bM_2
  obtain ⟨bS_2_c0, bS_2_c1, bS_2_c2, bS_2_c3⟩ := cells4 bS_2
  go_upto_region 4 with fail
  generalize (w1.alloc (.cells #[.int .i64 0, .slice a6 (Rec.pk true zeros).length d6, .slice a7 (Rec.pk true ya).length d7, .slice a8 (Rec.pk true yb).length d8] 38)) = w2 at *
  have hn3 : New w2 (w2.alloc (.cells #[.slice none 0 0] 32)) := (Kp.refl _ _).alloc _
  have z3 : w2.heap.size < (w2.alloc (.cells #[.slice none 0 0] 32)).heap.size := by simp
  have N3 : New w (w2.alloc (.cells #[.slice none 0 0] 32)) := N2.trans hn3
  have bC_3 := heap_new hn3 bC_2
  have bM_3 := heap_new hn3 bM_2
  have bS_3 := heap_new hn3 bS_2
  have oQ_3 := oQ_2.new (by omega) hn3
  have bE_3 : (w2.alloc (.cells #[.slice none 0 0] 32)).heap[w2.heap.size]? = some (.cells #[.slice none 0 0] 32) := alloc_heap _ _
  clear bC_2_c0 bC_2_c1 bC_2_c2 bM_2_c0 bM_2_c1 bS_2_c0 bS_2_c1 bS_2_c2 bS_2_c3
  clear bC_2 bM_2 bS_2 oQ_2 hn3
  obtain ⟨bC_3_c0, bC_3_c1, bC_3_c2⟩ := cells3 bC_3
  obtain ⟨bM_3_c0, bM_3_c1⟩ := cells2 bM_3
  obtain ⟨bS_3_c0, bS_3_c1, bS_3_c2, bS_3_c3⟩ := cells4 bS_3
  have bE_3_c0 := cell_of_heap bE_3 0
  go_upto_region 5 with fail
  generalize (w2.alloc (.cells #[.slice none 0 0] 32)) = w3 at *
  clear bC_3_c0 bC_3_c1 bC_3_c2 bM_3_c0 bM_3_c1 bS_3_c0 bS_3_c1 bS_3_c2 bS_3_c3 bE_3_c0
  obtain ⟨bC_3_c0, bC_3_c1, bC_3_c2⟩ := cells3 bC_3
  have hSl := heap_lt bS_3
  have hEl := heap_lt bE_3
  go_wp2_with fail
  refine (RunI.execute w3 w0.heap.size w1.heap.size lo hi (w1.heap.size) (w2.heap.size) 0 _ _ _ _ _ _ xa xb zeros ya x yb (hsa.out.new h1 N3) (hsb.out.new h1 N3) (hs.out.new h1 N3) (by omega) hch.out hkh.out hp b2 bS_3 oQ_3 (by omega) bE_3 (by omega) (by omega) (by omega) (by omega) (by omega) (by omega)).mono ?_
  rintro e w4 ⟨s2, l2, v2, hres, hk2, hl2, hn4, bS_4, oQ_4, bE_4, hT⟩
  have z4 := hn4.size
  have N4 := New.on N3 hn4 (fun i e => by omega)
  have hTh := Lib.hid hT
  have hTl := hT.lt
  have hQh := Lib.hid oQ_4
  clear hT oQ_4 oQ_3
  have zS := heap_lt bS_4
  have zE := heap_lt bE_4
  have hrr : runR xa xb x ya yb = run x 20000 ⟨((0 : Nat) : Int), zeros, ya, yb⟩ [] := runR_yes ht.out
  have hrh := Lib.hid hrr
  clear hrr
  rcases hres with ⟨hres, rfl⟩ | ⟨hres, rfl⟩
  · have hresh := Lib.hid hres
    clear hres
    have e0 := cell_of_heap bE_4 0
    obtain ⟨av, dv, ev, _⟩ := hTh.out.reads.len
    subst ev
    go_wp2
    go_quiet (fail)
    go_wp2
    go_ret3
    have kd : ∀ m, New w4 (w4.drewN m) := fun m => drewN_kp _ m (Kp.refl _ _)
    exact ⟨N4.trans (kd _), .inr ⟨s2, l2, _, w0.heap.size, w1.heap.size, _, _, _, _, by rw [hrh.out]; exact hresh.out, rfl, by rw [drewN_heap]; exact bS_4, hQh.out.new (by omega) (kd _), by omega, by rw [drewN_heap]; omega, (hTh.out.mono (by omega)).new (kd _), fun c hc => by have := (hTl c hc).1; omega⟩⟩
  · have hresh := Lib.hid hres
    clear hres
    go_wp2
    go_ret3
    exact ⟨N4, .inl ⟨by rw [hrh.out]; exact hresh.out, rfl⟩⟩
set_option maxHeartbeats 4000000 in
set_option maxRecDepth 100000 in
theorem implR (w : World) (lo hi lo' hi' : Nat) (ta tb tc ma mb : Value) (xa xb ya : List Int) (x : List Ins) (yb : List (List Int)) (sa : IntsR w lo hi ta xa) (sb : IntsR w lo hi tb xb) (s : InssR w lo hi tc x) (h1 : hi ≤ w.heap.size) (hO : MemO w lo' hi' ma mb ya yb) (h2 : hi' ≤ w.heap.size)
    (m0 : ya.length ≤ 1099511627776) (m1 : yb.length ≤ 1073741824) (m2 : ∀ x ∈ yb, x.length ≤ 1099511627776) :
    Calls Try.prog 7 #[.agg #[ta, tb, tc], .agg #[ma, mb]] w (Ret w (runR xa xb x ya yb)) := by
  obtain ⟨a1, d1, rfl, l1⟩ := sa.len
  obtain ⟨a2, d2, rfl, l2⟩ := sb.len
  obtain ⟨a3, d3, rfl, l3⟩ := s.len
  obtain ⟨⟨a4, d4, rfl⟩, a5, d5, rfl⟩ := hO.lens
  have hOh := Lib.hid hO
  clear hO
  have hsa := Lib.hid sa
  have hsb := Lib.hid sb
  have hs := Lib.hid s
  clear sa sb s
  go_enter Try.func7, Try.ntmps7
  go_wp2_with fail
  have N0 : New w (((w.alloc (.cells #[.slice a1 xa.length d1, .slice a2 xb.length d2, .slice a3 x.length d3] 26)).alloc (.cells #[.slice a4 ya.length d4, .slice a5 yb.length d5] 29)).alloc (.cells #[.slice none 0 0, .slice none 0 0] 29)) := ((((Kp.refl _ _).alloc _).alloc _).alloc _)
  have bC_0 : (((w.alloc (.cells #[.slice a1 xa.length d1, .slice a2 xb.length d2, .slice a3 x.length d3] 26)).alloc (.cells #[.slice a4 ya.length d4, .slice a5 yb.length d5] 29)).alloc (.cells #[.slice none 0 0, .slice none 0 0] 29)).heap[w.heap.size]? = some (.cells #[.slice a1 xa.length d1, .slice a2 xb.length d2, .slice a3 x.length d3] 26) := heap_old (heap_old (alloc_heap _ _))
  have bM_0 : (((w.alloc (.cells #[.slice a1 xa.length d1, .slice a2 xb.length d2, .slice a3 x.length d3] 26)).alloc (.cells #[.slice a4 ya.length d4, .slice a5 yb.length d5] 29)).alloc (.cells #[.slice none 0 0, .slice none 0 0] 29)).heap[w.heap.size + 1]? = some (.cells #[.slice a4 ya.length d4, .slice a5 yb.length d5] 29) := heap_old (heap_at (by simp))
  have bR_0 : (((w.alloc (.cells #[.slice a1 xa.length d1, .slice a2 xb.length d2, .slice a3 x.length d3] 26)).alloc (.cells #[.slice a4 ya.length d4, .slice a5 yb.length d5] 29)).alloc (.cells #[.slice none 0 0, .slice none 0 0] 29)).heap[w.heap.size + 1 + 1]? = some (.cells #[.slice none 0 0, .slice none 0 0] 29) := heap_at (by simp)
  have z0 : w.heap.size + 1 + 1 < (((w.alloc (.cells #[.slice a1 xa.length d1, .slice a2 xb.length d2, .slice a3 x.length d3] 26)).alloc (.cells #[.slice a4 ya.length d4, .slice a5 yb.length d5] 29)).alloc (.cells #[.slice none 0 0, .slice none 0 0] 29)).heap.size := by simp
  generalize (((w.alloc (.cells #[.slice a1 xa.length d1, .slice a2 xb.length d2, .slice a3 x.length d3] 26)).alloc (.cells #[.slice a4 ya.length d4, .slice a5 yb.length d5] 29)).alloc (.cells #[.slice none 0 0, .slice none 0 0] 29)) = w0 at *
  obtain ⟨bC_0_c0, bC_0_c1, bC_0_c2⟩ := cells3 bC_0
  obtain ⟨bM_0_c0, bM_0_c1⟩ := cells2 bM_0
  obtain ⟨bR_0_c0, bR_0_c1⟩ := cells2 bR_0
  go_wp2_with fail
  clear bC_0_c0 bC_0_c1 bC_0_c2 bM_0_c0 bM_0_c1 bR_0_c0 bR_0_c1
  refine (ran _ lo hi lo' hi' _ _ _ _ _ _ _ _ _ _ (hsa.out.new h1 N0) (hsb.out.new h1 N0) (hs.out.new h1 N0) (by omega) (hOh.out.new h2 N0) (by omega) m0 m1 m2).mono ?_
  rintro e w1 ⟨hn1, hres⟩
  have z1 := hn1.size
  have N1 := N0.trans hn1
  have bC_1 := heap_new hn1 bC_0
  have bM_1 := heap_new hn1 bM_0
  have bR_1 := heap_new hn1 bR_0
  have hn1h := Lib.hid hn1
  clear hn1
  rcases hres with ⟨hr, rfl⟩ | ⟨s2, l2, b, p, q, vr, va, vb, v, hr, rfl, bS, hQ, hp, hq, hT, hv⟩
  · have hrh := Lib.hid hr
    clear hr
    obtain ⟨e0_, e1_⟩ := cells2 bR_1
    have ef_ := frozen_of_heap bR_1
    go_wp2
    have hkz := setMany_kp (w.heap.size + 1 + 1) [.slice none 0 0, .slice none 0 0] w1 0
    have hR := setMany_row [.slice none 0 0, .slice none 0 0] bR_1 rfl
    exact bodyPost_ret (results_cell_tmp2 rfl _ _ _ _ _ _ _ _ _ rfl rfl rfl hR Try.underlying29 rfl (by kernel_rfl)) rfl (Ret.zero hrh.out rfl (New.one N1 hkz (by omega)) (OwnF.nil _ _ _))
  have hrh := Lib.hid hr
  clear hr
  obtain ⟨⟨a6, d6, e6⟩, ⟨a7, d7, e7⟩, a8, d8, e8⟩ := hQ.toR.lens
  subst e6; subst e7; subst e8
  have hQh := Lib.hid hQ
  have hTh := Lib.hid hT
  have hTl := hT.lt
  have hvh := Lib.hid hv
  clear hQ hT hv
  have s2_ := cell_of_heap bS 2
  have s3_ := cell_of_heap bS 3
  have sl := heap_lt bS
  obtain ⟨e0_, e1_⟩ := cells2 bR_1
  have ef_ := frozen_of_heap bR_1
  go_wp2
  obtain ⟨p2, q2, g1, g2, hMO⟩ := mem_of hQh.out
  have hkz := setMany_kp (w.heap.size + 1 + 1) [.slice a7 s2.v.length d7, .slice a8 s2.a.length d8] w1 0
  have zs := setMany_size (w.heap.size + 1 + 1) [.slice a7 s2.v.length d7, .slice a8 s2.a.length d8] w1 0
  have hR := setMany_row [.slice a7 s2.v.length d7, .slice a8 s2.a.length d8] bR_1 rfl
  have hqs : q2 ≤ (setMany w1 (w.heap.size + 1 + 1) 0 [.slice a7 s2.v.length d7, .slice a8 s2.a.length d8]).heap.size := by omega
  refine bodyPost_ret (v := .tuple #[.agg #[.slice a7 s2.v.length d7, .slice a8 s2.a.length d8], v, .bool true]) (results_cell_tmp2 rfl _ _ _ _ _ _ _ _ _ rfl rfl rfl hR Try.underlying29 rfl (by kernel_rfl)) rfl ?_
  exact Ret.full hrh.out rfl (New.one N1 hkz (by omega)) (hMO.kp hkz (fun b e => .inl (by omega))) (by omega) hqs ((hTh.out.kp hkz (fun b hb e => by have := hTl b hb; omega)).mono (by omega)) (fun b hb => .inr (by have := hvh.out b hb; omega))
end Go.Proofs.Ytbicpkmlionldaa.RunC
