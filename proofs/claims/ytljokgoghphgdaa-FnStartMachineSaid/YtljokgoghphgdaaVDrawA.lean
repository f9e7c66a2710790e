/- The draws of code with a state (DrawMachineValid, DrawStepMachine) and of code with a memory (DrawStartMachine, DrawRunCode). No conditions. -/
import Derived.Test.YtljokgoghphgdaaVDrawU
import Derived.Test.YtljokgoghphgdaaVP5
import Derived.Test.YtljokgoghphgdaaVP4
namespace Go.Proofs.Ytljokgoghphgdaa.DrawA
open Go.RowKit Kit Draw DrawX MarkC
set_option linter.unusedVariables false
theorem results_cell2 {P : Program} {fn : Func} {p q : Tmp} {ty ty2 : TypeId} (h : fn.results = #[.cell p ty, .cell q ty2]) (tmps : Array Value) (w : World) (g g2 : Nat) (t t2 : TypeId) (cs cs2 : Array Value) (fr fr2 : Nat × Nat) (d d2 : TypeDesc)
    (hp : tmps.getD p undef = .pointer (some ⟨g, 0, none⟩)) (hq : tmps.getD q undef = .pointer (some ⟨g2, 0, none⟩)) (hg : w.heap[g]? = some (.cells cs t fr)) (hg2 : w.heap[g2]? = some (.cells cs2 t2 fr2))
    (hu : P.underlying ty = some d) (hu2 : P.underlying ty2 = some d2) (hd : (match d with | .struct _ | .array _ _ => true | _ => false) = true) (hd2 : (match d2 with | .struct _ | .array _ _ => true | _ => false) = true) (hi : (P.info? ty).map (·.size) = some cs.size) (hi2 : (P.info? ty2).map (·.size) = some cs2.size) :
    (results fn tmps).run P w = .ok (.tuple #[.agg cs, .agg cs2]) w := by
  have hp' : tmps[p]?.getD undef = .pointer (some ⟨g, 0, none⟩) := by simpa using hp
  have hq' : tmps[q]?.getD undef = .pointer (some ⟨g2, 0, none⟩) := by simpa using hq
  simp [results, h, hp', hq', asAddr, run_loadVar_row w g t ty cs fr d hg hu hd hi, run_loadVar_row w g2 t2 ty2 cs2 fr2 d2 hg2 hu2 hd2 hi2]
/-- code, read in one range -/
def C3 (w : World) (lo hi : Nat) (va vb vc : Value) (xa xb : List Int) (x : List Ins) : Prop := IntsR w lo hi va xa ∧ IntsR w lo hi vb xb ∧ InssR w lo hi vc x
/-- code and a state -/
def GotV (w : World) (e : Ending) (w' : World) : Prop := ∃ (a1 a2 a3 : Option Addr) (d1 d2 d3 : Nat) (xa xb : List Int) (x : List Ins) (pc : Int) (vr va vb : Value) (yr ya : List Int) (yb : List (List Int)), e = .returned (.tuple #[.agg #[.slice a1 xa.length d1, .slice a2 xb.length d2, .slice a3 x.length d3], .agg #[.int .i64 pc, vr, va, vb]]) ∧ New w w' ∧
  C3 w' w.heap.size w'.heap.size (.slice a1 xa.length d1) (.slice a2 xb.length d2) (.slice a3 x.length d3) xa xb x ∧ MachO w' w.heap.size w'.heap.size vr va vb yr ya yb ∧ xa.length ≤ 5 ∧ xb.length ≤ 2 ∧ x.length ≤ 12 ∧ yr.length ≤ 14 ∧ ya.length ≤ 7 ∧ yb.length ≤ 2 ∧ (∀ y ∈ yb, 3 ≤ y.length ∧ y.length ≤ 4) ∧ -1 ≤ pc ∧ pc ≤ 1000
/-- code and a memory -/
def GotT (w : World) (e : Ending) (w' : World) : Prop := ∃ (a1 a2 a3 : Option Addr) (d1 d2 d3 : Nat) (xa xb : List Int) (x : List Ins) (va vb : Value) (ya : List Int) (yb : List (List Int)), e = .returned (.tuple #[.agg #[.slice a1 xa.length d1, .slice a2 xb.length d2, .slice a3 x.length d3], .agg #[va, vb]]) ∧ New w w' ∧
  C3 w' w.heap.size w'.heap.size (.slice a1 xa.length d1) (.slice a2 xb.length d2) (.slice a3 x.length d3) xa xb x ∧ MemO w' w.heap.size w'.heap.size va vb ya yb ∧ xa.length ≤ 5 ∧ xb.length ≤ 2 ∧ x.length ≤ 12 ∧ ya.length ≤ 6 ∧ yb.length ≤ 2 ∧ ∀ y ∈ yb, 3 ≤ y.length ∧ y.length ≤ 4
set_option maxHeartbeats 16000000 in
set_option maxRecDepth 100000 in
theorem drawStart (w : World) (a : Option Addr) (len cap : Nat) (h : Src w a len cap) : Calls Try.prog 26 #[.slice a len cap] w (GotT w) := by
  go_enter Try.func26, Try.ntmps26
  go_upto_region 1 with fail
  have N0 : New w ((w.alloc (.cells #[.slice none 0 0, .slice none 0 0, .slice none 0 0] 26)).alloc (.cells #[.slice none 0 0, .slice none 0 0] 29)) := ((Kp.refl _ _).alloc _).alloc _
  have bR_0 : ((w.alloc (.cells #[.slice none 0 0, .slice none 0 0, .slice none 0 0] 26)).alloc (.cells #[.slice none 0 0, .slice none 0 0] 29)).heap[w.heap.size]? = some (.cells #[.slice none 0 0, .slice none 0 0, .slice none 0 0] 26) := heap_old (alloc_heap _ _)
  have bQ_0 : ((w.alloc (.cells #[.slice none 0 0, .slice none 0 0, .slice none 0 0] 26)).alloc (.cells #[.slice none 0 0, .slice none 0 0] 29)).heap[w.heap.size + 1]? = some (.cells #[.slice none 0 0, .slice none 0 0] 29) := heap_at (by simp)
  have z0 : w.heap.size + 1 < ((w.alloc (.cells #[.slice none 0 0, .slice none 0 0, .slice none 0 0] 26)).alloc (.cells #[.slice none 0 0, .slice none 0 0] 29)).heap.size := by simp
  generalize ((w.alloc (.cells #[.slice none 0 0, .slice none 0 0, .slice none 0 0] 26)).alloc (.cells #[.slice none 0 0, .slice none 0 0] 29)) = w0 at *
  have s0 := h.keep N0
  go_wp2_with fail
  refine (Draw.l17Open w0 _ _ _ s0.1 s0.2.1 s0.2.2).mono ?_
  rintro e w1 ⟨rfl, hn1, r1⟩
  have z1 : w0.heap.size ≤ w1.heap.size := hn1.size
  have bR_1 := heap_new hn1 bR_0
  have bQ_1 := heap_new hn1 bQ_0
  have K1 : New w w1 := N0.trans hn1
  have hwbr0 : w.heap.size + 2 ≤ w0.heap.size := by omega
  generalize hbr : w0.heap.size = br at *
  have hwbr : w.heap.size ≤ br := by omega
  clear hbr N0 hn1 bR_0 bQ_0 z0 s0 h
  go_wp2_with fail
  refine (DrawD.l6Code w1 br 0 r1 (by omega)).mono ?_
  rintro e w2 ⟨a1, a2, a3, d1, d2, d3, xa, xb, x, q, rfl, hn2, r2, hq, hA, hB, hC, hxa, hxb, hx⟩
  have hbl : br < w1.heap.size := r1.lt
  have z2 : w1.heap.size ≤ w2.heap.size := hn2.size
  have bR_2 := (hn2.block _ (heap_lt bR_1) (by omega)).trans bR_1
  have bQ_2 := (hn2.block _ (heap_lt bQ_1) (by omega)).trans bQ_1
  have K2 : New w w2 := New.one K1 hn2 hwbr
  clear bR_1 bQ_1 K1 r1 hn2
  have oC_2 := Lib.hid (show _ ∧ _ ∧ _ from ⟨hA, hB, hC⟩)
  clear hA hB hC
  have hn3 : New w2 (w2.alloc (.cells #[.slice a1 xa.length d1, .slice a2 xb.length d2, .slice a3 x.length d3] 26)) := (Kp.refl _ _).alloc _
  have y3 : w2.heap.size < (w2.alloc (.cells #[.slice a1 xa.length d1, .slice a2 xb.length d2, .slice a3 x.length d3] 26)).heap.size := lt_alloc _ _
  have bC_3 := alloc_heap w2 (.cells #[.slice a1 xa.length d1, .slice a2 xb.length d2, .slice a3 x.length d3] 26)
  go_upto_region 3 with fail
  have yy3 : br < w2.heap.size := r2.lt
  generalize hbC : w2.heap.size = bC at bC_3 y3 yy3 ⊢
  generalize (w2.alloc (.cells #[.slice a1 xa.length d1, .slice a2 xb.length d2, .slice a3 x.length d3] 26)) = w3 at *
  have z3 : w2.heap.size ≤ w3.heap.size := hn3.size
  have bR_3 := (hn3.block _ (heap_lt bR_2) (fun f => f)).trans bR_2
  have bQ_3 := (hn3.block _ (heap_lt bQ_2) (fun f => f)).trans bQ_2
  have oC_3 := Lib.hid ((⟨oC_2.out.1.new (by omega) hn3, oC_2.out.2.1.new (by omega) hn3, oC_2.out.2.2.new (by omega) hn3⟩ : _ ∧ _ ∧ _))
  have K3 : New w w3 := K2.trans hn3
  have r3 := r2.keep hn3 (fun _ f => f.elim)
  clear bR_2 bQ_2 oC_2 K2 r2 hn3
  have cC0 := cell_of_heap bC_3 0
  have cC1 := cell_of_heap bC_3 1
  have cC2 := cell_of_heap bC_3 2
  have lC := heap_lt bC_3
  go_wp2_with fail
  refine (Decl.l6Heads _ _ _ _ _ _ _).mono ?_
  rintro e w4 ⟨rfl, hn4⟩
  have z4 : w3.heap.size ≤ w4.heap.size := hn4.size
  have bR_4 := (hn4.block _ (heap_lt bR_3) (fun f => f)).trans bR_3
  have bQ_4 := (hn4.block _ (heap_lt bQ_3) (fun f => f)).trans bQ_3
  have bC_4 := (hn4.block _ (heap_lt bC_3) (fun f => f)).trans bC_3
  have oC_4 := Lib.hid ((⟨oC_3.out.1.new (by omega) hn4, oC_3.out.2.1.new (by omega) hn4, oC_3.out.2.2.new (by omega) hn4⟩ : _ ∧ _ ∧ _))
  have K4 : New w w4 := K3.trans hn4
  have r4 := r3.keep hn4 (fun _ f => f.elim)
  clear cC0 cC1 cC2 lC
  clear bR_3 bQ_3 bC_3 oC_3 K3 r3 hn4
  go_wp2_with fail
  refine (DrawM.l3Memory w4 br (q) a1 a2 none xa.length d1 xb.length d2 0 0 r4 (by omega) (by omega) (by omega)).mono ?_
  rintro e w5 ⟨u1, u2, za, zb, q3, rfl, hn5, r5, hq3, hM1, hz1, hz2, hz3⟩
  have z5 : w4.heap.size ≤ w5.heap.size := hn5.size
  have bR_5 := (hn5.block _ (heap_lt bR_4) (by omega)).trans bR_4
  have bQ_5 := (hn5.block _ (heap_lt bQ_4) (by omega)).trans bQ_4
  have bC_5 := (hn5.block _ (heap_lt bC_4) (by omega)).trans bC_4
  have oC_5 := Lib.hid ((⟨oC_4.out.1.kp hn5 (by omega) (fun b e => by omega), oC_4.out.2.1.kp hn5 (by omega) (fun b e => by omega), oC_4.out.2.2.kp hn5 (by omega) (fun b e => by omega)⟩ : _ ∧ _ ∧ _))
  have K5 : New w w5 := New.one K4 hn5 hwbr
  clear bR_4 bQ_4 bC_4 oC_4 K4 r4 hn5
  obtain ⟨⟨a6, d6, rfl⟩, a7, d7, rfl⟩ := hM1.lens
  have hM1h := Lib.hid hM1
  have hz1h := Lib.hid hz1
  have hz2h := Lib.hid hz2
  have hz3h := Lib.hid hz3
  clear hM1 hz1 hz2 hz3
  go_wp2_with fail
  have hMr := hM1h.out.reads
  refine (DrawM.l3Bend w5 br q3 xa.length xb.length w4.heap.size w5.heap.size _ _ za zb r5 hMr.1 hMr.2 (Nat.le_refl _) hz1h.out hz2h.out (by omega) (by omega) hz3h.out (by omega)).mono ?_
  rintro e w6 ⟨u3, u4, ya, yb, qS, rfl, hn6, r6, hqS, hM, hm2, hm3, hm4⟩
  clear hMr hM1h
  have z6 : w5.heap.size ≤ w6.heap.size := hn6.size
  have bR_6 := (hn6.block _ (heap_lt bR_5) (by omega)).trans bR_5
  have bQ_6 := (hn6.block _ (heap_lt bQ_5) (by omega)).trans bQ_5
  have bC_6 := (hn6.block _ (heap_lt bC_5) (by omega)).trans bC_5
  have oC_6 := Lib.hid ((⟨oC_5.out.1.kp hn6 (by omega) (fun b e => by omega), oC_5.out.2.1.kp hn6 (by omega) (fun b e => by omega), oC_5.out.2.2.kp hn6 (by omega) (fun b e => by omega)⟩ : _ ∧ _ ∧ _))
  have K6 : New w w6 := New.one K5 hn6 hwbr
  clear bR_5 bQ_5 bC_5 oC_5 K5 r5 hn6
  obtain ⟨⟨aa, da, rfl⟩, ab, db, rfl⟩ := hM.lens
  have oS_6 := Lib.hid hM
  have hlS := Lib.hid hm4
  clear hM hm4
  have hn7 : New w6 (w6.alloc (.cells #[.slice aa ya.length da, .slice ab yb.length db] 29)) := (Kp.refl _ _).alloc _
  have y7 : w6.heap.size < (w6.alloc (.cells #[.slice aa ya.length da, .slice ab yb.length db] 29)).heap.size := lt_alloc _ _
  have bE_7 := alloc_heap w6 (.cells #[.slice aa ya.length da, .slice ab yb.length db] 29)
  go_upto_region 4 with fail
  have yy7 : br < w6.heap.size := r6.lt
  generalize hbE : w6.heap.size = bE at bE_7 y7 yy7 ⊢
  generalize (w6.alloc (.cells #[.slice aa ya.length da, .slice ab yb.length db] 29)) = w7 at *
  have z7 : w6.heap.size ≤ w7.heap.size := hn7.size
  have bR_7 := (hn7.block _ (heap_lt bR_6) (fun f => f)).trans bR_6
  have bQ_7 := (hn7.block _ (heap_lt bQ_6) (fun f => f)).trans bQ_6
  have bC_7 := (hn7.block _ (heap_lt bC_6) (fun f => f)).trans bC_6
  have oC_7 := Lib.hid ((⟨oC_6.out.1.new (by omega) hn7, oC_6.out.2.1.new (by omega) hn7, oC_6.out.2.2.new (by omega) hn7⟩ : _ ∧ _ ∧ _))
  have oS_7 := Lib.hid (oS_6.out.new (by omega) hn7)
  have K7 : New w w7 := K6.trans hn7
  have r7 := r6.keep hn7 (fun _ f => f.elim)
  clear bR_6 bQ_6 bC_6 oC_6 oS_6 K6 r6 hn7
  have cC0 := cell_of_heap bC_7 0
  have cC1 := cell_of_heap bC_7 1
  have cC2 := cell_of_heap bC_7 2
  have lC := heap_lt bC_7
  have cE0 := cell_of_heap bE_7 0
  have cE1 := cell_of_heap bE_7 1
  have lE := heap_lt bE_7
  have cR0 := cell_of_heap bR_7 0
  have cR1 := cell_of_heap bR_7 1
  have cR2 := cell_of_heap bR_7 2
  have fR := frozen_of_heap bR_7
  have lR := heap_lt bR_7
  have cQ0 := cell_of_heap bQ_7 0
  have cQ1 := cell_of_heap bQ_7 1
  have fQ := frozen_of_heap bQ_7
  have lQ := heap_lt bQ_7
  go_wp2_with fail
  refine wp_region_held_drew (S := fun w' => w'.cell? ⟨bC, 0, none⟩ = some (.slice a1 xa.length d1) ∧ w'.cell? ⟨bC, 1, none⟩ = some (.slice a2 xb.length d2) ∧ w'.cell? ⟨bC, 2, none⟩ = some (.slice a3 x.length d3) ∧ w'.cell? ⟨bE, 0, none⟩ = some (.slice aa ya.length da) ∧ w'.cell? ⟨bE, 1, none⟩ = some (.slice ab yb.length db)) (by kernel_rfl) ?_ (fun hHeld => ?_)
  · exact ⟨cC0, cC1, cC2, cE0, cE1⟩
  clear cC0 cC1 cC2 lC cE0 cE1 lE cR0 cR1 cR2 fR lR cQ0 cQ1 fQ lQ
  have hn8 : New w7 w7.drew := (Kp.refl _ _).drew
  generalize w7.drew = w8 at *
  have z8 : w7.heap.size ≤ w8.heap.size := hn8.size
  have bR_8 := (hn8.block _ (heap_lt bR_7) (fun f => f)).trans bR_7
  have bQ_8 := (hn8.block _ (heap_lt bQ_7) (fun f => f)).trans bQ_7
  have bC_8 := (hn8.block _ (heap_lt bC_7) (fun f => f)).trans bC_7
  have bE_8 := (hn8.block _ (heap_lt bE_7) (fun f => f)).trans bE_7
  have oC_8 := Lib.hid ((⟨oC_7.out.1.new (by omega) hn8, oC_7.out.2.1.new (by omega) hn8, oC_7.out.2.2.new (by omega) hn8⟩ : _ ∧ _ ∧ _))
  have oS_8 := Lib.hid (oS_7.out.new (by omega) hn8)
  have K8 : New w w8 := K7.trans hn8
  have r8 := r7.keep hn8 (fun _ f => f.elim)
  clear bR_7 bQ_7 bC_7 bE_7 oC_7 oS_7 K7 r7 hn8
  have cC0 := cell_of_heap bC_8 0
  have cC1 := cell_of_heap bC_8 1
  have cC2 := cell_of_heap bC_8 2
  have lC := heap_lt bC_8
  have cE0 := cell_of_heap bE_8 0
  have cE1 := cell_of_heap bE_8 1
  have lE := heap_lt bE_8
  have cR0 := cell_of_heap bR_8 0
  have cR1 := cell_of_heap bR_8 1
  have cR2 := cell_of_heap bR_8 2
  have fR := frozen_of_heap bR_8
  have lR := heap_lt bR_8
  have cQ0 := cell_of_heap bQ_8 0
  have cQ1 := cell_of_heap bQ_8 1
  have fQ := frozen_of_heap bQ_8
  have lQ := heap_lt bQ_8
  refine wpAnyH_take (i := 0) (v := ?vcq0) rfl (by kernel_rfl) (by kernel_rfl) (by kernel_rfl) (fun _ _ _ h => h) (Or.inl ⟨by kernel_rfl, ?ycq0⟩) (by assumption) ?rcq0
  case ycq0 =>
    intro w hSw
    try dsimp only at hSw
    go_simp
    try with_reducible rfl
  try simp only [Act.put, List.getElem_toArray, List.getElem_cons_zero, List.setIfInBounds_toArray, List.set_cons_zero, List.set_cons_succ]
  refine wpAnyH_take (i := 1) (v := ?vcq1) rfl (by kernel_rfl) (by kernel_rfl) (by kernel_rfl) (fun _ _ _ h => h) (Or.inl ⟨by kernel_rfl, ?ycq1⟩) (by assumption) ?rcq1
  case ycq1 =>
    intro w hSw
    try dsimp only at hSw
    go_simp
    try with_reducible rfl
  try simp only [Act.put, List.getElem_toArray, List.getElem_cons_zero, List.getElem_cons_succ, List.setIfInBounds_toArray, List.set_cons_zero, List.set_cons_succ]
  refine wpAnyH_take (i := 3) (v := ?vcq3) rfl (by kernel_rfl) (by kernel_rfl) (by kernel_rfl) (fun _ _ _ h => h) (Or.inl ⟨by kernel_rfl, ?ycq3⟩) (by assumption) ?rcq3
  case ycq3 =>
    intro w hSw
    try dsimp only at hSw
    go_simp
    try with_reducible rfl
  try simp only [Act.put, List.getElem_toArray, List.getElem_cons_zero, List.getElem_cons_succ, List.setIfInBounds_toArray, List.set_cons_zero, List.set_cons_succ]
  refine wpAnyH_ready (rs := [2]) (by kernel_rfl) (by simp) ?_
  refine AllReadyH.cons rfl (fun K hK => ?_) AllReadyH.nil
  go_simp
  refine (DrawU.l6Mutate w8 br (qS) w.heap.size w8.heap.size a1 a2 a3 d1 d2 d3 xa xb x r8 (oC_8.out.1.mono (by omega) (by omega)) (oC_8.out.2.1.mono (by omega) (by omega)) (oC_8.out.2.2.mono (by omega) (by omega)) (Nat.le_refl _) (by omega) (by omega) (by omega) (by omega)).mono ?_
  rintro e w9 ⟨e1, e2, e3, f1, f2, f3, ya', yb', x', qU, rfl, hn9, r9, hqU, hA, hB, hC, hl1, hl2, hl3⟩
  have z9 : w8.heap.size ≤ w9.heap.size := hn9.size
  have bR_9 := (hn9.block _ (heap_lt bR_8) (by omega)).trans bR_8
  have bQ_9 := (hn9.block _ (heap_lt bQ_8) (by omega)).trans bQ_8
  have bC_9 := (hn9.block _ (heap_lt bC_8) (by omega)).trans bC_8
  have bE_9 := (hn9.block _ (heap_lt bE_8) (by omega)).trans bE_8
  have oC_9 := Lib.hid ((⟨oC_8.out.1.kp hn9 (by omega) (fun b e => by omega), oC_8.out.2.1.kp hn9 (by omega) (fun b e => by omega), oC_8.out.2.2.kp hn9 (by omega) (fun b e => by omega)⟩ : _ ∧ _ ∧ _))
  have oS_9 := Lib.hid (oS_8.out.kp hn9 (fun b e => by omega))
  have K9 : New w w9 := New.one K8 hn9 hwbr
  clear cC0 cC1 cC2 lC cE0 cE1 lE cR0 cR1 cR2 fR lR cQ0 cQ1 fQ lQ
  clear bR_8 bQ_8 bC_8 bE_8 oC_8 oS_8 K8 r8 hn9
  have oD_9 := Lib.hid (show _ ∧ _ ∧ _ from ⟨hA, hB, hC⟩)
  clear hA hB hC
  have cC0 := cell_of_heap bC_9 0
  have cC1 := cell_of_heap bC_9 1
  have cC2 := cell_of_heap bC_9 2
  have lC := heap_lt bC_9
  have cE0 := cell_of_heap bE_9 0
  have cE1 := cell_of_heap bE_9 1
  have lE := heap_lt bE_9
  have cR0 := cell_of_heap bR_9 0
  have cR1 := cell_of_heap bR_9 1
  have cR2 := cell_of_heap bR_9 2
  have fR := frozen_of_heap bR_9
  have lR := heap_lt bR_9
  have cQ0 := cell_of_heap bQ_9 0
  have cQ1 := cell_of_heap bQ_9 1
  have fQ := frozen_of_heap bQ_9
  have lQ := heap_lt bQ_9
  refine hK.out _ _ ?_ (fun hHeld2 => ?_)
  · exact ⟨cC0, cC1, cC2, cE0, cE1⟩
  clear hK K hHeld
  have hHeld := hHeld2
  clear hHeld2
  try simp only [Act.put, List.getElem_toArray, List.getElem_cons_zero, List.getElem_cons_succ, List.setIfInBounds_toArray, List.set_cons_zero, List.set_cons_succ]
  refine wpAnyH_ready (rs := [4]) (by kernel_rfl) (by simp) ?_
  refine AllReadyH.cons rfl (fun K hK => ?_) AllReadyH.nil
  go_simp
  have hk10 : Kp (fun k => k = w.heap.size) w9 (((w9.setCell ⟨w.heap.size, 0, none⟩ ((.slice e1 ya'.length f1))).setCell ⟨w.heap.size, 1, none⟩ ((.slice e2 yb'.length f2))).setCell ⟨w.heap.size, 2, none⟩ ((.slice e3 x'.length f3))) := (Kp.setCell (Kp.setCell (Kp.setCell (Kp.refl (fun k => k = w.heap.size) _) (.inl rfl) _) (.inl rfl) _) (.inl rfl) _)
  have bR_10 : (((w9.setCell ⟨w.heap.size, 0, none⟩ ((.slice e1 ya'.length f1))).setCell ⟨w.heap.size, 1, none⟩ ((.slice e2 yb'.length f2))).setCell ⟨w.heap.size, 2, none⟩ ((.slice e3 x'.length f3))).heap[w.heap.size]? = some (.cells #[(.slice e1 ya'.length f1), (.slice e2 yb'.length f2), (.slice e3 x'.length f3)] 26) := (setCell_heap (setCell_heap (setCell_heap bR_9 _) _) _)
  generalize (((w9.setCell ⟨w.heap.size, 0, none⟩ ((.slice e1 ya'.length f1))).setCell ⟨w.heap.size, 1, none⟩ ((.slice e2 yb'.length f2))).setCell ⟨w.heap.size, 2, none⟩ ((.slice e3 x'.length f3))) = w10 at *
  have z10 : w9.heap.size ≤ w10.heap.size := hk10.size
  have bQ_10 := (hk10.block _ (heap_lt bQ_9) (by omega)).trans bQ_9
  have bC_10 := (hk10.block _ (heap_lt bC_9) (by omega)).trans bC_9
  have bE_10 := (hk10.block _ (heap_lt bE_9) (by omega)).trans bE_9
  have oC_10 := Lib.hid ((⟨oC_9.out.1.kp hk10 (by omega) (fun b e => by omega), oC_9.out.2.1.kp hk10 (by omega) (fun b e => by omega), oC_9.out.2.2.kp hk10 (by omega) (fun b e => by omega)⟩ : _ ∧ _ ∧ _))
  have oS_10 := Lib.hid (oS_9.out.kp hk10 (fun b e => by omega))
  have oD_10 := Lib.hid ((⟨oD_9.out.1.kp hk10 (by omega) (fun b e => by omega), oD_9.out.2.1.kp hk10 (by omega) (fun b e => by omega), oD_9.out.2.2.kp hk10 (by omega) (fun b e => by omega)⟩ : _ ∧ _ ∧ _))
  have K10 : New w w10 := New.one K9 hk10 (by omega)
  clear cC0 cC1 cC2 lC cE0 cE1 lE cR0 cR1 cR2 fR lR cQ0 cQ1 fQ lQ
  clear bR_9 bQ_9 bC_9 bE_9 oC_9 oS_9 oD_9 K9 hk10
  have cC0 := cell_of_heap bC_10 0
  have cC1 := cell_of_heap bC_10 1
  have cC2 := cell_of_heap bC_10 2
  have lC := heap_lt bC_10
  have cE0 := cell_of_heap bE_10 0
  have cE1 := cell_of_heap bE_10 1
  have lE := heap_lt bE_10
  have cR0 := cell_of_heap bR_10 0
  have cR1 := cell_of_heap bR_10 1
  have cR2 := cell_of_heap bR_10 2
  have fR := frozen_of_heap bR_10
  have lR := heap_lt bR_10
  have cQ0 := cell_of_heap bQ_10 0
  have cQ1 := cell_of_heap bQ_10 1
  have fQ := frozen_of_heap bQ_10
  have lQ := heap_lt bQ_10
  refine hK.out _ _ ?_ (fun hHeld2 => ?_)
  · exact ⟨cC0, cC1, cC2, cE0, cE1⟩
  clear hK K hHeld
  have hHeld := hHeld2
  clear hHeld2
  try simp only [Act.put]
  refine wpAnyH_ready (rs := [5]) (by kernel_rfl) (by simp) ?_
  refine AllReadyH.cons rfl (fun K hK => ?_) AllReadyH.nil
  go_simp
  have hk11 : Kp (fun k => k = w.heap.size + 1) w10 ((w10.setCell ⟨w.heap.size + 1, 0, none⟩ (.slice aa ya.length da)).setCell ⟨w.heap.size + 1, 1, none⟩ (.slice ab yb.length db)) := (Kp.setCell (Kp.setCell (Kp.refl (fun k => k = w.heap.size + 1) _) (.inl rfl) _) (.inl rfl) _)
  have bQ_11 : ((w10.setCell ⟨w.heap.size + 1, 0, none⟩ (.slice aa ya.length da)).setCell ⟨w.heap.size + 1, 1, none⟩ (.slice ab yb.length db)).heap[w.heap.size + 1]? = some (.cells #[.slice aa ya.length da, .slice ab yb.length db] 29) := (setCell_heap (setCell_heap bQ_10 _) _)
  generalize ((w10.setCell ⟨w.heap.size + 1, 0, none⟩ (.slice aa ya.length da)).setCell ⟨w.heap.size + 1, 1, none⟩ (.slice ab yb.length db)) = w11 at *
  have z11 : w10.heap.size ≤ w11.heap.size := hk11.size
  have bR_11 := (hk11.block _ (heap_lt bR_10) (by omega)).trans bR_10
  have bC_11 := (hk11.block _ (heap_lt bC_10) (by omega)).trans bC_10
  have bE_11 := (hk11.block _ (heap_lt bE_10) (by omega)).trans bE_10
  have oC_11 := Lib.hid ((⟨oC_10.out.1.kp hk11 (by omega) (fun b e => by omega), oC_10.out.2.1.kp hk11 (by omega) (fun b e => by omega), oC_10.out.2.2.kp hk11 (by omega) (fun b e => by omega)⟩ : _ ∧ _ ∧ _))
  have oS_11 := Lib.hid (oS_10.out.kp hk11 (fun b e => by omega))
  have oD_11 := Lib.hid ((⟨oD_10.out.1.kp hk11 (by omega) (fun b e => by omega), oD_10.out.2.1.kp hk11 (by omega) (fun b e => by omega), oD_10.out.2.2.kp hk11 (by omega) (fun b e => by omega)⟩ : _ ∧ _ ∧ _))
  have K11 : New w w11 := New.one K10 hk11 (by omega)
  clear cC0 cC1 cC2 lC cE0 cE1 lE cR0 cR1 cR2 fR lR cQ0 cQ1 fQ lQ
  clear bR_10 bQ_10 bC_10 bE_10 oC_10 oS_10 oD_10 K10 hk11
  have cC0 := cell_of_heap bC_11 0
  have cC1 := cell_of_heap bC_11 1
  have cC2 := cell_of_heap bC_11 2
  have lC := heap_lt bC_11
  have cE0 := cell_of_heap bE_11 0
  have cE1 := cell_of_heap bE_11 1
  have lE := heap_lt bE_11
  have cR0 := cell_of_heap bR_11 0
  have cR1 := cell_of_heap bR_11 1
  have cR2 := cell_of_heap bR_11 2
  have fR := frozen_of_heap bR_11
  have lR := heap_lt bR_11
  have cQ0 := cell_of_heap bQ_11 0
  have cQ1 := cell_of_heap bQ_11 1
  have fQ := frozen_of_heap bQ_11
  have lQ := heap_lt bQ_11
  refine hK.out _ _ ?_ (fun hHeld2 => ?_)
  · exact ⟨cC0, cC1, cC2, cE0, cE1⟩
  clear hK K hHeld
  have hHeld := hHeld2
  clear hHeld2
  try simp only [Act.put]
  refine wpAnyH_done (by kernel_rfl) ?_ _
  go_wp2
  exact bodyPost_ret (results_cell2 rfl _ _ _ _ _ _ _ _ _ _ _ _ rfl rfl bR_11 bQ_11 Try.underlying26 Try.underlying29 rfl rfl (by kernel_rfl) (by kernel_rfl)) rfl ⟨e1, e2, e3, f1, f2, f3, ya', yb', x', _, _, ya, yb, rfl, K11, ⟨oD_11.out.1.mono (lo' := w.heap.size) (hi' := w11.heap.size) (by omega) (by omega), oD_11.out.2.1.mono (lo' := w.heap.size) (hi' := w11.heap.size) (by omega) (by omega), oD_11.out.2.2.mono (lo' := w.heap.size) (hi' := w11.heap.size) (by omega) (by omega)⟩, oS_11.out.mono (lo' := w.heap.size) (hi' := w11.heap.size) (by omega) (by omega), by omega, by omega, by omega, by omega, by omega, hlS.out⟩
end Go.Proofs.Ytljokgoghphgdaa.DrawA
