/- The draws of code with a state (DrawMachineValid, DrawStepMachine) and of code with a memory (DrawStartMachine, DrawRunCode). No conditions. -/
import Derived.Test.YtbicpkmlionldaaVDrawU
import Derived.Test.YtbicpkmlionldaaVP5
import Derived.Test.YtbicpkmlionldaaVDrawN
import Derived.Test.YtbicpkmlionldaaVP4
import Derived.Test.YtbicpkmlionldaaVP1
namespace Go.Proofs.Ytbicpkmlionldaa.DrawA
open Go.RowKit Kit Draw DrawX MarkC
set_option linter.unusedVariables false
theorem results_cell2 {P : Program} {fn : Func} {p q : Tmp} {ty ty2 : TypeId} (h : fn.results = #[.cell p ty, .cell q ty2]) (tmps : Array Value) (w : World) (g g2 : Nat) (t t2 : TypeId) (cs cs2 : Array Value) (fr fr2 : Nat × Nat) (d d2 : TypeDesc)
    (hp : tmps.getD p undef = .pointer (some ⟨g, 0, none⟩)) (hq : tmps.getD q undef = .pointer (some ⟨g2, 0, none⟩)) (hg : w.heap[g]? = some (.cells cs t fr)) (hg2 : w.heap[g2]? = some (.cells cs2 t2 fr2))
    (hu : P.underlying ty = some d) (hu2 : P.underlying ty2 = some d2) (hd : (match d with | .struct _ | .array _ _ => true | _ => false) = true) (hd2 : (match d2 with | .struct _ | .array _ _ => true | _ => false) = true) (hi : (P.info? ty).map (·.size) = some cs.size) (hi2 : (P.info? ty2).map (·.size) = some cs2.size) :
    (results fn tmps).run P w = .ok (.tuple #[.agg cs, .agg cs2]) w := by
  have hp' : tmps[p]?.getD undef = .pointer (some ⟨g, 0, none⟩) := by simpa using hp
  have hq' : tmps[q]?.getD undef = .pointer (some ⟨g2, 0, none⟩) := by simpa using hq
  simp [results, h, hp', hq', asAddr, run_loadVar_row w g t ty cs fr d hg hu hd hi, run_loadVar_row w g2 t2 ty2 cs2 fr2 d2 hg2 hu2 hd2 hi2]
/-- code, read in one range -/
def C3 (w : World) (lo hi : Nat) (va vb vc : Value) (xa xb : List Int) (x : List Ins) : Prop := IntsR w lo hi va xa ∧ IntsR w lo hi vb xb ∧ InssR w lo hi vc x
/-- code and a state -/
def GotV (w : World) (e : Ending) (w' : World) : Prop := ∃ (a1 a2 a3 : Option Addr) (d1 d2 d3 : Nat) (xa xb : List Int) (x : List Ins) (pc : Int) (vr va vb : Value) (yr ya : List Int) (yb : List (List Int)), e = .returned (.tuple #[.agg #[.slice a1 xa.length d1, .slice a2 xb.length d2, .slice a3 x.length d3], .agg #[.int .i64 pc, vr, va, vb]]) ∧ New w w' ∧
  C3 w' w.heap.size w'.heap.size (.slice a1 xa.length d1) (.slice a2 xb.length d2) (.slice a3 x.length d3) xa xb x ∧ MachO w' w.heap.size w'.heap.size vr va vb yr ya yb ∧ xa.length ≤ 5 ∧ xb.length ≤ 2 ∧ x.length ≤ 12 ∧ yr.length ≤ 14 ∧ ya.length ≤ 7 ∧ yb.length ≤ 2 ∧ (∀ y ∈ yb, 3 ≤ y.length ∧ y.length ≤ 4) ∧ -1 ≤ pc ∧ pc ≤ 1000
/-- code and a memory -/
def GotT (w : World) (e : Ending) (w' : World) : Prop := ∃ (a1 a2 a3 : Option Addr) (d1 d2 d3 : Nat) (xa xb : List Int) (x : List Ins) (va vb : Value) (ya : List Int) (yb : List (List Int)), e = .returned (.tuple #[.agg #[.slice a1 xa.length d1, .slice a2 xb.length d2, .slice a3 x.length d3], .agg #[va, vb]]) ∧ New w w' ∧
  C3 w' w.heap.size w'.heap.size (.slice a1 xa.length d1) (.slice a2 xb.length d2) (.slice a3 x.length d3) xa xb x ∧ MemO w' w.heap.size w'.heap.size va vb ya yb ∧ xa.length ≤ 5 ∧ xb.length ≤ 2 ∧ x.length ≤ 12 ∧ ya.length ≤ 6 ∧ yb.length ≤ 2 ∧ ∀ y ∈ yb, 3 ≤ y.length ∧ y.length ≤ 4
set_option maxHeartbeats 16000000 in
set_option maxRecDepth 100000 in
theorem drawStart (w : World) (a : Option Addr) (len cap : Nat) (h : Src w a len cap) : Calls Try.prog 17 #[.slice a len cap] w (GotT w) := by
  go_enter Try.func17, Try.ntmps17
  go_upto_region 1 with fail
  have N0 : New w ((w.alloc (.cells #[.slice none 0 0, .slice none 0 0, .slice none 0 0] 26)).alloc (.cells #[.slice none 0 0, .slice none 0 0] 29)) := ((Kp.refl _ _).alloc _).alloc _
  have bR_0 : ((w.alloc (.cells #[.slice none 0 0, .slice none 0 0, .slice none 0 0] 26)).alloc (.cells #[.slice none 0 0, .slice none 0 0] 29)).heap[w.heap.size]? = some (.cells #[.slice none 0 0, .slice none 0 0, .slice none 0 0] 26) := heap_old (alloc_heap _ _)
  have bQ_0 : ((w.alloc (.cells #[.slice none 0 0, .slice none 0 0, .slice none 0 0] 26)).alloc (.cells #[.slice none 0 0, .slice none 0 0] 29)).heap[w.heap.size + 1]? = some (.cells #[.slice none 0 0, .slice none 0 0] 29) := heap_at (by simp)
  have z0 : w.heap.size + 1 < ((w.alloc (.cells #[.slice none 0 0, .slice none 0 0, .slice none 0 0] 26)).alloc (.cells #[.slice none 0 0, .slice none 0 0] 29)).heap.size := by simp
  generalize ((w.alloc (.cells #[.slice none 0 0, .slice none 0 0, .slice none 0 0] 26)).alloc (.cells #[.slice none 0 0, .slice none 0 0] 29)) = w0 at *
  have s0 := h.keep N0
  go_wp2_with fail
  refine (Draw.l17Open w0 _ _ _ s0.1 s0.2.1 s0.2.2).mono ?_
  rintro e w1 ⟨rfl, hn1, r1⟩
  have z1 := hn1.size
  have bR_1 := heap_new hn1 bR_0
  have bQ_1 := heap_new hn1 bQ_0
  have K1 := N0.trans hn1
  have hwbr0 : w.heap.size + 2 ≤ w0.heap.size := by omega
  generalize hbr : w0.heap.size = br at *
  have hwbr : w.heap.size ≤ br := by omega
  clear hbr N0 hn1 bR_0 bQ_0 z0 s0 h
  go_wp2_with fail
  refine (DrawD.l6Code w1 br 0 r1 (by omega)).mono ?_
  rintro e w2 ⟨a1, a2, a3, d1, d2, d3, xa, xb, x, q, rfl, hn2, r2, hq, hA, hB, hC, hxa, hxb, hx⟩
  have hbl : br < w1.heap.size := r1.lt
  have z2 := hn2.size
  have bR_2 := hn2.bo bR_1
  have bQ_2 := hn2.bo bQ_1
  have K2 : New w w2 := New.one K1 hn2 hwbr
  clear bR_1 bQ_1 K1 r1 hn2
  have oC_2 := Lib.hid (show _ ∧ _ ∧ _ from ⟨hA, hB, hC⟩)
  clear hA hB hC
  obtain ⟨hn3, y3, bC_3⟩ := newb w2 (.cells #[.slice a1 xa.length d1, .slice a2 xb.length d2, .slice a3 x.length d3] 26)
  go_upto_region 3 with fail
  have yy3 : br < w2.heap.size := r2.lt
  generalize hbC : w2.heap.size = bC at bC_3 y3 yy3 ⊢
  generalize (w2.alloc (.cells #[.slice a1 xa.length d1, .slice a2 xb.length d2, .slice a3 x.length d3] 26)) = w3 at *
  have z3 := hn3.size
  have bR_3 := hn3.bk bR_2
  have bQ_3 := hn3.bk bQ_2
  have oC_3 := Lib.hid ((⟨oC_2.out.1.new (by omega) hn3, oC_2.out.2.1.new (by omega) hn3, oC_2.out.2.2.new (by omega) hn3⟩ : _ ∧ _ ∧ _))
  have K3 := K2.trans hn3
  have r3 := r2.nw hn3
  clear bR_2 bQ_2 oC_2 K2 r2 hn3
  obtain ⟨cC0, cC1, cC2⟩ := cells3 bC_3
  have lC := heap_lt bC_3
  go_wp2_with fail
  refine (Decl.l6Heads _ _ _ _ _ _ _).mono ?_
  rintro e w4 ⟨rfl, hn4⟩
  have z4 := hn4.size
  have bR_4 := hn4.bk bR_3
  have bQ_4 := hn4.bk bQ_3
  have bC_4 := hn4.bk bC_3
  have oC_4 := Lib.hid ((⟨oC_3.out.1.new (by omega) hn4, oC_3.out.2.1.new (by omega) hn4, oC_3.out.2.2.new (by omega) hn4⟩ : _ ∧ _ ∧ _))
  have K4 := K3.trans hn4
  have r4 := r3.nw hn4
  clear cC0 cC1 cC2 lC
  clear bR_3 bQ_3 bC_3 oC_3 K3 r3 hn4
  go_wp2_with fail
  refine (DrawM.l3Memory w4 br (q) a1 a2 none xa.length d1 xb.length d2 0 0 r4 (by omega) (by omega) (by omega)).mono ?_
  rintro e w5 ⟨u1, u2, za, zb, q3, rfl, hn5, r5, hq3, hM1, hz1, hz2, hz3⟩
  have z5 := hn5.size
  have bR_5 := hn5.bo bR_4
  have bQ_5 := hn5.bo bQ_4
  have bC_5 := hn5.bo bC_4
  have oC_5 := Lib.hid ((⟨oC_4.out.1.kp hn5 (by omega) (fun b e => by omega), oC_4.out.2.1.kp hn5 (by omega) (fun b e => by omega), oC_4.out.2.2.kp hn5 (by omega) (fun b e => by omega)⟩ : _ ∧ _ ∧ _))
  have K5 : New w w5 := New.one K4 hn5 hwbr
  clear bR_4 bQ_4 bC_4 oC_4 K4 r4 hn5
  obtain ⟨⟨a6, d6, rfl⟩, a7, d7, rfl⟩ := hM1.lens
  have hM1h := Lib.hid hM1
  have hz1h := Lib.hid hz1
  have hz2h := Lib.hid hz2
  have hz3h := Lib.hid hz3
  clear hM1 hz1 hz2 hz3
  go_wp2_with fail
  have hMr := hM1h.out.reads
  refine (DrawM.l3Bend w5 br q3 xa.length xb.length w4.heap.size w5.heap.size _ _ za zb r5 hMr.1 hMr.2 (Nat.le_refl _) hz1h.out hz2h.out (by omega) (by omega) hz3h.out (by omega)).mono ?_
  rintro e w6 ⟨u3, u4, ya, yb, qS, rfl, hn6, r6, hqS, hM, hm2, hm3, hm4⟩
  clear hMr hM1h
  have z6 := hn6.size
  have bR_6 := hn6.bo bR_5
  have bQ_6 := hn6.bo bQ_5
  have bC_6 := hn6.bo bC_5
  have oC_6 := Lib.hid ((⟨oC_5.out.1.kp hn6 (by omega) (fun b e => by omega), oC_5.out.2.1.kp hn6 (by omega) (fun b e => by omega), oC_5.out.2.2.kp hn6 (by omega) (fun b e => by omega)⟩ : _ ∧ _ ∧ _))
  have K6 : New w w6 := New.one K5 hn6 hwbr
  clear bR_5 bQ_5 bC_5 oC_5 K5 r5 hn6
  obtain ⟨⟨aa, da, rfl⟩, ab, db, rfl⟩ := hM.lens
  have oS_6 := Lib.hid hM
  have hlS := Lib.hid hm4
  clear hM hm4
  obtain ⟨hn7, y7, bE_7⟩ := newb w6 (.cells #[.slice aa ya.length da, .slice ab yb.length db] 29)
  go_upto_region 4 with fail
  have yy7 : br < w6.heap.size := r6.lt
  generalize hbE : w6.heap.size = bE at bE_7 y7 yy7 ⊢
  generalize (w6.alloc (.cells #[.slice aa ya.length da, .slice ab yb.length db] 29)) = w7 at *
  have z7 := hn7.size
  have bR_7 := hn7.bk bR_6
  have bQ_7 := hn7.bk bQ_6
  have bC_7 := hn7.bk bC_6
  have oC_7 := Lib.hid ((⟨oC_6.out.1.new (by omega) hn7, oC_6.out.2.1.new (by omega) hn7, oC_6.out.2.2.new (by omega) hn7⟩ : _ ∧ _ ∧ _))
  have oS_7 := Lib.hid (oS_6.out.new (by omega) hn7)
  have K7 := K6.trans hn7
  have r7 := r6.nw hn7
  clear bR_6 bQ_6 bC_6 oC_6 oS_6 K6 r6 hn7
  obtain ⟨cC0, cC1, cC2⟩ := cells3 bC_7
  have lC := heap_lt bC_7
  obtain ⟨cE0, cE1⟩ := cells2 bE_7
  have lE := heap_lt bE_7
  obtain ⟨cR0, cR1, cR2⟩ := cells3 bR_7
  have fR := frozen_of_heap bR_7
  have lR := heap_lt bR_7
  obtain ⟨cQ0, cQ1⟩ := cells2 bQ_7
  have fQ := frozen_of_heap bQ_7
  have lQ := heap_lt bQ_7
  go_wp2_with fail
  refine wp_region_held_drew (S := fun w' => w'.cell? ⟨bC, 0, none⟩ = some (.slice a1 xa.length d1) ∧ w'.cell? ⟨bC, 1, none⟩ = some (.slice a2 xb.length d2) ∧ w'.cell? ⟨bC, 2, none⟩ = some (.slice a3 x.length d3) ∧ w'.cell? ⟨bE, 0, none⟩ = some (.slice aa ya.length da) ∧ w'.cell? ⟨bE, 1, none⟩ = some (.slice ab yb.length db)) (by kernel_rfl) ?_ (fun hHeld => ?_)
  · exact ⟨cC0, cC1, cC2, cE0, cE1⟩
  clear cC0 cC1 cC2 lC cE0 cE1 lE cR0 cR1 cR2 fR lR cQ0 cQ1 fQ lQ
  have hn8 : New w7 w7.drew := (Kp.refl _ _).drew
  generalize w7.drew = w8 at *
  have z8 := hn8.size
  have bR_8 := hn8.bk bR_7
  have bQ_8 := hn8.bk bQ_7
  have bC_8 := hn8.bk bC_7
  have bE_8 := hn8.bk bE_7
  have oC_8 := Lib.hid ((⟨oC_7.out.1.new (by omega) hn8, oC_7.out.2.1.new (by omega) hn8, oC_7.out.2.2.new (by omega) hn8⟩ : _ ∧ _ ∧ _))
  have oS_8 := Lib.hid (oS_7.out.new (by omega) hn8)
  have K8 := K7.trans hn8
  have r8 := r7.nw hn8
  clear bR_7 bQ_7 bC_7 bE_7 oC_7 oS_7 K7 r7 hn8
  obtain ⟨cC0, cC1, cC2⟩ := cells3 bC_8
  have lC := heap_lt bC_8
  obtain ⟨cE0, cE1⟩ := cells2 bE_8
  have lE := heap_lt bE_8
  obtain ⟨cR0, cR1, cR2⟩ := cells3 bR_8
  have fR := frozen_of_heap bR_8
  have lR := heap_lt bR_8
  obtain ⟨cQ0, cQ1⟩ := cells2 bQ_8
  have fQ := frozen_of_heap bQ_8
  have lQ := heap_lt bQ_8
  refine HT 0 rfl ?_
  try simp only [AP]
  refine HT 1 rfl ?_
  try simp only [AP]
  refine HT 3 rfl ?_
  try simp only [AP]
  refine HR 2 rfl fun K hK => ?_
  go_simp
  refine (DrawU.l6Mutate w8 br (qS) w.heap.size w8.heap.size a1 a2 a3 d1 d2 d3 xa xb x r8 (oC_8.out.1.mono (by omega) (by omega)) (oC_8.out.2.1.mono (by omega) (by omega)) (oC_8.out.2.2.mono (by omega) (by omega)) (Nat.le_refl _) (by omega) (by omega) (by omega) (by omega)).mono ?_
  rintro e w9 ⟨e1, e2, e3, f1, f2, f3, ya', yb', x', qU, rfl, hn9, r9, hqU, hA, hB, hC, hl1, hl2, hl3⟩
  have z9 := hn9.size
  have bR_9 := hn9.bo bR_8
  have bQ_9 := hn9.bo bQ_8
  have bC_9 := hn9.bo bC_8
  have bE_9 := hn9.bo bE_8
  have oC_9 := Lib.hid ((⟨oC_8.out.1.kp hn9 (by omega) (fun b e => by omega), oC_8.out.2.1.kp hn9 (by omega) (fun b e => by omega), oC_8.out.2.2.kp hn9 (by omega) (fun b e => by omega)⟩ : _ ∧ _ ∧ _))
  have oS_9 := Lib.hid (oS_8.out.kp hn9 (fun b e => by omega))
  have K9 : New w w9 := New.one K8 hn9 hwbr
  clear cC0 cC1 cC2 lC cE0 cE1 lE cR0 cR1 cR2 fR lR cQ0 cQ1 fQ lQ
  clear bR_8 bQ_8 bC_8 bE_8 oC_8 oS_8 K8 r8 hn9
  have oD_9 := Lib.hid (show _ ∧ _ ∧ _ from ⟨hA, hB, hC⟩)
  clear hA hB hC
  obtain ⟨cC0, cC1, cC2⟩ := cells3 bC_9
  have lC := heap_lt bC_9
  obtain ⟨cE0, cE1⟩ := cells2 bE_9
  have lE := heap_lt bE_9
  obtain ⟨cR0, cR1, cR2⟩ := cells3 bR_9
  have fR := frozen_of_heap bR_9
  have lR := heap_lt bR_9
  obtain ⟨cQ0, cQ1⟩ := cells2 bQ_9
  have fQ := frozen_of_heap bQ_9
  have lQ := heap_lt bQ_9
  refine hK.out _ _ ?_ (fun hHeld2 => ?_)
  · exact ⟨cC0, cC1, cC2, cE0, cE1⟩
  clear hK K hHeld
  have hHeld := hHeld2
  clear hHeld2
  try simp only [AP]
  refine HR 4 rfl fun K hK => ?_
  go_simp
  have hk10 : Kp (fun k => k = w.heap.size) w9 (((w9.setCell ⟨w.heap.size, 0, none⟩ ((.slice e1 ya'.length f1))).setCell ⟨w.heap.size, 1, none⟩ ((.slice e2 yb'.length f2))).setCell ⟨w.heap.size, 2, none⟩ ((.slice e3 x'.length f3))) := (Kp.setCell (Kp.setCell (Kp.setCell (Kp.refl (fun k => k = w.heap.size) _) (.inl rfl) _) (.inl rfl) _) (.inl rfl) _)
  have bR_10 : (((w9.setCell ⟨w.heap.size, 0, none⟩ ((.slice e1 ya'.length f1))).setCell ⟨w.heap.size, 1, none⟩ ((.slice e2 yb'.length f2))).setCell ⟨w.heap.size, 2, none⟩ ((.slice e3 x'.length f3))).heap[w.heap.size]? = some (.cells #[(.slice e1 ya'.length f1), (.slice e2 yb'.length f2), (.slice e3 x'.length f3)] 26) := (setCell_heap (setCell_heap (setCell_heap bR_9 _) _) _)
  generalize (((w9.setCell ⟨w.heap.size, 0, none⟩ ((.slice e1 ya'.length f1))).setCell ⟨w.heap.size, 1, none⟩ ((.slice e2 yb'.length f2))).setCell ⟨w.heap.size, 2, none⟩ ((.slice e3 x'.length f3))) = w10 at *
  have z10 := hk10.size
  have bQ_10 := hk10.bo bQ_9
  have bC_10 := hk10.bo bC_9
  have bE_10 := hk10.bo bE_9
  have oC_10 := Lib.hid ((⟨oC_9.out.1.kp hk10 (by omega) (fun b e => by omega), oC_9.out.2.1.kp hk10 (by omega) (fun b e => by omega), oC_9.out.2.2.kp hk10 (by omega) (fun b e => by omega)⟩ : _ ∧ _ ∧ _))
  have oS_10 := Lib.hid (oS_9.out.kp hk10 (fun b e => by omega))
  have oD_10 := Lib.hid ((⟨oD_9.out.1.kp hk10 (by omega) (fun b e => by omega), oD_9.out.2.1.kp hk10 (by omega) (fun b e => by omega), oD_9.out.2.2.kp hk10 (by omega) (fun b e => by omega)⟩ : _ ∧ _ ∧ _))
  have K10 : New w w10 := New.one K9 hk10 (by omega)
  clear cC0 cC1 cC2 lC cE0 cE1 lE cR0 cR1 cR2 fR lR cQ0 cQ1 fQ lQ
  clear bR_9 bQ_9 bC_9 bE_9 oC_9 oS_9 oD_9 K9 hk10
  obtain ⟨cC0, cC1, cC2⟩ := cells3 bC_10
  have lC := heap_lt bC_10
  obtain ⟨cE0, cE1⟩ := cells2 bE_10
  have lE := heap_lt bE_10
  obtain ⟨cR0, cR1, cR2⟩ := cells3 bR_10
  have fR := frozen_of_heap bR_10
  have lR := heap_lt bR_10
  obtain ⟨cQ0, cQ1⟩ := cells2 bQ_10
  have fQ := frozen_of_heap bQ_10
  have lQ := heap_lt bQ_10
  refine hK.out _ _ ?_ (fun hHeld2 => ?_)
  · exact ⟨cC0, cC1, cC2, cE0, cE1⟩
  clear hK K hHeld
  have hHeld := hHeld2
  clear hHeld2
  try simp only [Act.put]
  refine HR 5 rfl fun K hK => ?_
  go_simp
  have hk11 : Kp (fun k => k = w.heap.size + 1) w10 ((w10.setCell ⟨w.heap.size + 1, 0, none⟩ (.slice aa ya.length da)).setCell ⟨w.heap.size + 1, 1, none⟩ (.slice ab yb.length db)) := (Kp.setCell (Kp.setCell (Kp.refl (fun k => k = w.heap.size + 1) _) (.inl rfl) _) (.inl rfl) _)
  have bQ_11 : ((w10.setCell ⟨w.heap.size + 1, 0, none⟩ (.slice aa ya.length da)).setCell ⟨w.heap.size + 1, 1, none⟩ (.slice ab yb.length db)).heap[w.heap.size + 1]? = some (.cells #[.slice aa ya.length da, .slice ab yb.length db] 29) := (setCell_heap (setCell_heap bQ_10 _) _)
  generalize ((w10.setCell ⟨w.heap.size + 1, 0, none⟩ (.slice aa ya.length da)).setCell ⟨w.heap.size + 1, 1, none⟩ (.slice ab yb.length db)) = w11 at *
  have z11 := hk11.size
  have bR_11 := hk11.bo bR_10
  have bC_11 := hk11.bo bC_10
  have bE_11 := hk11.bo bE_10
  have oC_11 := Lib.hid ((⟨oC_10.out.1.kp hk11 (by omega) (fun b e => by omega), oC_10.out.2.1.kp hk11 (by omega) (fun b e => by omega), oC_10.out.2.2.kp hk11 (by omega) (fun b e => by omega)⟩ : _ ∧ _ ∧ _))
  have oS_11 := Lib.hid (oS_10.out.kp hk11 (fun b e => by omega))
  have oD_11 := Lib.hid ((⟨oD_10.out.1.kp hk11 (by omega) (fun b e => by omega), oD_10.out.2.1.kp hk11 (by omega) (fun b e => by omega), oD_10.out.2.2.kp hk11 (by omega) (fun b e => by omega)⟩ : _ ∧ _ ∧ _))
  have K11 : New w w11 := New.one K10 hk11 (by omega)
  clear cC0 cC1 cC2 lC cE0 cE1 lE cR0 cR1 cR2 fR lR cQ0 cQ1 fQ lQ
  clear bR_10 bQ_10 bC_10 bE_10 oC_10 oS_10 oD_10 K10 hk11
  obtain ⟨cC0, cC1, cC2⟩ := cells3 bC_11
  have lC := heap_lt bC_11
  obtain ⟨cE0, cE1⟩ := cells2 bE_11
  have lE := heap_lt bE_11
  obtain ⟨cR0, cR1, cR2⟩ := cells3 bR_11
  have fR := frozen_of_heap bR_11
  have lR := heap_lt bR_11
  obtain ⟨cQ0, cQ1⟩ := cells2 bQ_11
  have fQ := frozen_of_heap bQ_11
  have lQ := heap_lt bQ_11
  refine hK.out _ _ ?_ (fun hHeld2 => ?_)
  · exact ⟨cC0, cC1, cC2, cE0, cE1⟩
  clear hK K hHeld
  have hHeld := hHeld2
  clear hHeld2
  try simp only [Act.put]
  refine wpAnyH_done (by kernel_rfl) ?_ _
  go_wp2
  exact bodyPost_ret (results_cell2 rfl _ _ _ _ _ _ _ _ _ _ _ _ rfl rfl bR_11 bQ_11 Try.underlying26 Try.underlying29 rfl rfl (by kernel_rfl) (by kernel_rfl)) rfl ⟨e1, e2, e3, f1, f2, f3, ya', yb', x', _, _, ya, yb, rfl, K11, ⟨oD_11.out.1.mono (lo' := w.heap.size) (hi' := w11.heap.size) (by omega) (by omega), oD_11.out.2.1.mono (lo' := w.heap.size) (hi' := w11.heap.size) (by omega) (by omega), oD_11.out.2.2.mono (lo' := w.heap.size) (hi' := w11.heap.size) (by omega) (by omega)⟩, oS_11.out.mono (lo' := w.heap.size) (hi' := w11.heap.size) (by omega) (by omega), by omega, by omega, by omega, by omega, by omega, hlS.out⟩
set_option maxHeartbeats 2000000 in
theorem drawRun (w : World) (a : Option Addr) (len cap : Nat) (h : Src w a len cap) : Calls Try.prog 6 #[.slice a len cap] w (GotT w) := by
  go_enter Try.func6, Try.ntmps6
  go_wp2_with fail
  have N0 : New w ((w.alloc (.cells #[.slice none 0 0, .slice none 0 0, .slice none 0 0] 26)).alloc (.cells #[.slice none 0 0, .slice none 0 0] 29)) := ((Kp.refl _ _).alloc _).alloc _
  have bR_0 : ((w.alloc (.cells #[.slice none 0 0, .slice none 0 0, .slice none 0 0] 26)).alloc (.cells #[.slice none 0 0, .slice none 0 0] 29)).heap[w.heap.size]? = some (.cells #[.slice none 0 0, .slice none 0 0, .slice none 0 0] 26) := heap_old (alloc_heap _ _)
  have bQ_0 : ((w.alloc (.cells #[.slice none 0 0, .slice none 0 0, .slice none 0 0] 26)).alloc (.cells #[.slice none 0 0, .slice none 0 0] 29)).heap[w.heap.size + 1]? = some (.cells #[.slice none 0 0, .slice none 0 0] 29) := heap_at (by simp)
  have z0 : w.heap.size + 1 < ((w.alloc (.cells #[.slice none 0 0, .slice none 0 0, .slice none 0 0] 26)).alloc (.cells #[.slice none 0 0, .slice none 0 0] 29)).heap.size := by simp
  generalize ((w.alloc (.cells #[.slice none 0 0, .slice none 0 0, .slice none 0 0] 26)).alloc (.cells #[.slice none 0 0, .slice none 0 0] 29)) = w0 at *
  refine (drawStart w0 a len cap (h.keep N0)).mono ?_
  rintro e w1 ⟨a1, a2, a3, d1, d2, d3, xa, xb, x, va, vb, ya, yb, rfl, hn1, hC, hO, hrest⟩
  obtain ⟨⟨aa, da, rfl⟩, ab, db, rfl⟩ := hO.lens
  have hCh := Lib.hid hC
  have hOh := Lib.hid hO
  have hrh := Lib.hid hrest
  have z1 := hn1.size
  have bR := heap_new hn1 bR_0
  have bQ := heap_new hn1 bQ_0
  clear hC hO hrest bR_0 bQ_0 h
  obtain ⟨cR0, cR1, cR2⟩ := cells3 bR
  obtain ⟨cQ0, cQ1⟩ := cells2 bQ
  have fR := frozen_of_heap bR
  have fQ := frozen_of_heap bQ
  have lR := heap_lt bR
  have lQ := heap_lt bQ
  go_wp2
  have hk1 := setMany_kp (w.heap.size) [.slice a1 xa.length d1, .slice a2 xb.length d2, .slice a3 x.length d3] w1 0
  have hk2 := setMany_kp (w.heap.size + 1) [.slice aa ya.length da, .slice ab yb.length db] (setMany w1 (w.heap.size) 0 [.slice a1 xa.length d1, .slice a2 xb.length d2, .slice a3 x.length d3]) 0
  have zs1 := setMany_size (w.heap.size) [.slice a1 xa.length d1, .slice a2 xb.length d2, .slice a3 x.length d3] w1 0
  have zs2 := setMany_size (w.heap.size + 1) [.slice aa ya.length da, .slice ab yb.length db] (setMany w1 (w.heap.size) 0 [.slice a1 xa.length d1, .slice a2 xb.length d2, .slice a3 x.length d3]) 0
  have hR := setMany_other [.slice aa ya.length da, .slice ab yb.length db] 0 (setMany_row [.slice a1 xa.length d1, .slice a2 xb.length d2, .slice a3 x.length d3] bR rfl) (show w.heap.size ≠ w.heap.size + 1 by omega)
  have hQ := setMany_row [.slice aa ya.length da, .slice ab yb.length db] (setMany_other [.slice a1 xa.length d1, .slice a2 xb.length d2, .slice a3 x.length d3] 0 bQ (show w.heap.size + 1 ≠ w.heap.size by omega)) rfl
  exact bodyPost_ret (results_cell2 rfl _ _ _ _ _ _ _ _ _ _ _ _ rfl rfl hR hQ Try.underlying26 Try.underlying29 rfl rfl (by kernel_rfl) (by kernel_rfl)) rfl ⟨a1, a2, a3, d1, d2, d3, xa, xb, x, _, _, ya, yb, rfl, New.one (New.one (N0.trans hn1) hk1 (by omega)) hk2 (by omega), ⟨((hCh.out.1.kp hk1 (by omega) (fun b e => by omega)).kp hk2 (by omega) (fun b e => by omega)).mono (lo' := w.heap.size) (hi' := (setMany (setMany w1 (w.heap.size) 0 [.slice a1 xa.length d1, .slice a2 xb.length d2, .slice a3 x.length d3]) (w.heap.size + 1) 0 [.slice aa ya.length da, .slice ab yb.length db]).heap.size) (by omega) (by omega), ((hCh.out.2.1.kp hk1 (by omega) (fun b e => by omega)).kp hk2 (by omega) (fun b e => by omega)).mono (lo' := w.heap.size) (hi' := (setMany (setMany w1 (w.heap.size) 0 [.slice a1 xa.length d1, .slice a2 xb.length d2, .slice a3 x.length d3]) (w.heap.size + 1) 0 [.slice aa ya.length da, .slice ab yb.length db]).heap.size) (by omega) (by omega), ((hCh.out.2.2.kp hk1 (by omega) (fun b e => by omega)).kp hk2 (by omega) (fun b e => by omega)).mono (lo' := w.heap.size) (hi' := (setMany (setMany w1 (w.heap.size) 0 [.slice a1 xa.length d1, .slice a2 xb.length d2, .slice a3 x.length d3]) (w.heap.size + 1) 0 [.slice aa ya.length da, .slice ab yb.length db]).heap.size) (by omega) (by omega)⟩, ((hOh.out.kp hk1 (fun b e => by omega)).kp hk2 (fun b e => by omega)).mono (lo' := w.heap.size) (hi' := (setMany (setMany w1 (w.heap.size) 0 [.slice a1 xa.length d1, .slice a2 xb.length d2, .slice a3 x.length d3]) (w.heap.size + 1) 0 [.slice aa ya.length da, .slice ab yb.length db]).heap.size) (by omega) (by omega), hrh.out⟩
end Go.Proofs.Ytbicpkmlionldaa.DrawA
