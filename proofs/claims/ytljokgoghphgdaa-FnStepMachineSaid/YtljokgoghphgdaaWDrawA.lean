/- The draws of code with a state (DrawMachineValid, DrawStepMachine) and of code with a memory (DrawStartMachine, DrawRunCode). No conditions. -/
import Derived.Test.YtljokgoghphgdaaWDrawU
import Derived.Test.YtljokgoghphgdaaWP5
import Derived.Test.YtljokgoghphgdaaWDrawN
import Derived.Test.YtljokgoghphgdaaWP4
import Derived.Test.YtljokgoghphgdaaWP1
namespace Go.Proofs.Ytljokgoghphgdaa.DrawA
open Go.RowKit Kit Draw DrawX MarkC
set_option linter.unusedVariables false
theorem results_cell2 {P : Program} {fn : Func} {p q : Tmp} {ty ty2 : TypeId} (h : fn.results = #[.cell p ty, .cell q ty2]) (tmps : Array Value) (w : World) (g g2 : Nat) (t t2 : TypeId) (cs cs2 : Array Value) (fr fr2 : Nat × Nat) (d d2 : TypeDesc)
    (hp : tmps.getD p undef = .pointer (some ⟨g, 0, none⟩)) (hq : tmps.getD q undef = .pointer (some ⟨g2, 0, none⟩)) (hg : w.heap[g]? = some (.cells cs t fr)) (hg2 : w.heap[g2]? = some (.cells cs2 t2 fr2))
    (hu : P.underlying ty = some d) (hu2 : P.underlying ty2 = some d2) (hd : (match d with | .struct _ | .array _ _ => true | _ => false) = true) (hd2 : (match d2 with | .struct _ | .array _ _ => true | _ => false) = true) (hi : (P.info? ty).map (·.size) = some cs.size) (hi2 : (P.info? ty2).map (·.size) = some cs2.size) :
    (results fn tmps).run P w = .ok (.tuple #[.agg cs, .agg cs2]) w := by
  have hp' : tmps[p]?.getD undef = .pointer (some ⟨g, 0, none⟩) := by simpa using hp
  have hq' : tmps[q]?.getD undef = .pointer (some ⟨g2, 0, none⟩) := by simpa using hq
  simp [results, h, hp', hq', asAddr, run_loadVar_row w g t ty cs fr d hg hu hd hi, run_loadVar_row w g2 t2 ty2 cs2 fr2 d2 hg2 hu2 hd2 hi2]
/-- code, read in one range -/
def C3 (w : World) (lo hi : Nat) (va vb vc : Value) (xa xb : List Int) (x : List Ins) : Prop := IntsR w lo hi va xa ∧ IntsR w lo hi vb xb ∧ InssR w lo hi vc x
/-- code and a state -/
def GotV (w : World) (e : Ending) (w' : World) : Prop := ∃ (a1 a2 a3 : Option Addr) (d1 d2 d3 : Nat) (xa xb : List Int) (x : List Ins) (pc : Int) (vr va vb : Value) (yr ya : List Int) (yb : List (List Int)), e = .returned (.tuple #[.agg #[.slice a1 xa.length d1, .slice a2 xb.length d2, .slice a3 x.length d3], .agg #[.int .i64 pc, vr, va, vb]]) ∧ New w w' ∧
  C3 w' w.heap.size w'.heap.size (.slice a1 xa.length d1) (.slice a2 xb.length d2) (.slice a3 x.length d3) xa xb x ∧ MachO w' w.heap.size w'.heap.size vr va vb yr ya yb ∧ xa.length ≤ 5 ∧ xb.length ≤ 2 ∧ x.length ≤ 12 ∧ yr.length ≤ 14 ∧ ya.length ≤ 7 ∧ yb.length ≤ 2 ∧ (∀ y ∈ yb, 3 ≤ y.length ∧ y.length ≤ 4) ∧ -1 ≤ pc ∧ pc ≤ 1000
/-- code and a memory -/
def GotT (w : World) (e : Ending) (w' : World) : Prop := ∃ (a1 a2 a3 : Option Addr) (d1 d2 d3 : Nat) (xa xb : List Int) (x : List Ins) (va vb : Value) (ya : List Int) (yb : List (List Int)), e = .returned (.tuple #[.agg #[.slice a1 xa.length d1, .slice a2 xb.length d2, .slice a3 x.length d3], .agg #[va, vb]]) ∧ New w w' ∧
  C3 w' w.heap.size w'.heap.size (.slice a1 xa.length d1) (.slice a2 xb.length d2) (.slice a3 x.length d3) xa xb x ∧ MemO w' w.heap.size w'.heap.size va vb ya yb ∧ xa.length ≤ 5 ∧ xb.length ≤ 2 ∧ x.length ≤ 12 ∧ ya.length ≤ 6 ∧ yb.length ≤ 2 ∧ ∀ y ∈ yb, 3 ≤ y.length ∧ y.length ≤ 4
set_option maxHeartbeats 16000000 in
set_option maxRecDepth 100000 in
theorem drawValid (w : World) (a : Option Addr) (len cap : Nat) (h : Src w a len cap) : Calls Try.prog 47 #[.slice a len cap] w (GotV w) := by
  go_enter Try.func47, Try.ntmps47
  go_upto_region 1 with fail
  have N0 : New w ((w.alloc (.cells #[.slice none 0 0, .slice none 0 0, .slice none 0 0] 26)).alloc (.cells #[.int .i64 0, .slice none 0 0, .slice none 0 0, .slice none 0 0] 31)) := ((Kp.refl _ _).alloc _).alloc _
  have bR_0 : ((w.alloc (.cells #[.slice none 0 0, .slice none 0 0, .slice none 0 0] 26)).alloc (.cells #[.int .i64 0, .slice none 0 0, .slice none 0 0, .slice none 0 0] 31)).heap[w.heap.size]? = some (.cells #[.slice none 0 0, .slice none 0 0, .slice none 0 0] 26) := heap_old (alloc_heap _ _)
  have bQ_0 : ((w.alloc (.cells #[.slice none 0 0, .slice none 0 0, .slice none 0 0] 26)).alloc (.cells #[.int .i64 0, .slice none 0 0, .slice none 0 0, .slice none 0 0] 31)).heap[w.heap.size + 1]? = some (.cells #[.int .i64 0, .slice none 0 0, .slice none 0 0, .slice none 0 0] 31) := heap_at (by simp)
  have z0 : w.heap.size + 1 < ((w.alloc (.cells #[.slice none 0 0, .slice none 0 0, .slice none 0 0] 26)).alloc (.cells #[.int .i64 0, .slice none 0 0, .slice none 0 0, .slice none 0 0] 31)).heap.size := by simp
  generalize ((w.alloc (.cells #[.slice none 0 0, .slice none 0 0, .slice none 0 0] 26)).alloc (.cells #[.int .i64 0, .slice none 0 0, .slice none 0 0, .slice none 0 0] 31)) = w0 at *
  have s0 := h.keep N0
  go_wp2_with fail
  refine (Draw.l17Open w0 _ _ _ s0.1 s0.2.1 s0.2.2).mono ?_
  rintro e w1 ⟨rfl, hn1, r1⟩
  have z1 := hn1.size
  have bR_1 := heap_new hn1 bR_0
  have bQ_1 := heap_new hn1 bQ_0
  have K1 := N0.trans hn1
  have hwbr0 : w.heap.size + 2 ≤ w0.heap.size := by omega
  generalize hbr : w0.heap.size = br at *
  have hwbr : w.heap.size ≤ br := by omega
  clear hbr N0 hn1 bR_0 bQ_0 z0 s0 h
  go_wp2_with fail
  refine (DrawD.l6Code w1 br 0 r1 (by omega)).mono ?_
  rintro e w2 ⟨a1, a2, a3, d1, d2, d3, xa, xb, x, q, rfl, hn2, r2, hq, hA, hB, hC, hxa, hxb, hx⟩
  have hbl : br < w1.heap.size := r1.lt
  have z2 := hn2.size
  have bR_2 := hn2.bo bR_1
  have bQ_2 := hn2.bo bQ_1
  have K2 : New w w2 := New.one K1 hn2 hwbr
  clear bR_1 bQ_1 K1 r1 hn2
  have oC_2 := Lib.hid (show _ ∧ _ ∧ _ from ⟨hA, hB, hC⟩)
  clear hA hB hC
  obtain ⟨hn3, y3, bC_3⟩ := newb w2 (.cells #[.slice a1 xa.length d1, .slice a2 xb.length d2, .slice a3 x.length d3] 26)
  go_upto_region 3 with fail
  have yy3 : br < w2.heap.size := r2.lt
  generalize hbC : w2.heap.size = bC at bC_3 y3 yy3 ⊢
  generalize (w2.alloc (.cells #[.slice a1 xa.length d1, .slice a2 xb.length d2, .slice a3 x.length d3] 26)) = w3 at *
  have z3 := hn3.size
  have bR_3 := hn3.bk bR_2
  have bQ_3 := hn3.bk bQ_2
  have oC_3 := Lib.hid ((⟨oC_2.out.1.new (by omega) hn3, oC_2.out.2.1.new (by omega) hn3, oC_2.out.2.2.new (by omega) hn3⟩ : _ ∧ _ ∧ _))
  have K3 := K2.trans hn3
  have r3 := r2.nw hn3
  clear bR_2 bQ_2 oC_2 K2 r2 hn3
  obtain ⟨cC0, cC1, cC2⟩ := cells3 bC_3
  have lC := heap_lt bC_3
  go_wp2_with fail
  refine (DrawN.l6State w3 br (q) a1 a2 a3 xa.length d1 xb.length d2 x.length d3 r3 (by omega) (by omega) (by omega) (by omega)).mono ?_
  rintro e w4 ⟨pc, vr, va, vb, yr, ya, yb, qS, rfl, hn4, r4, hqS, hM, hm1, hm2, hm3, hm4, hm5, hm6⟩
  have z4 := hn4.size
  have bR_4 := hn4.bo bR_3
  have bQ_4 := hn4.bo bQ_3
  have bC_4 := hn4.bo bC_3
  have oC_4 := Lib.hid ((⟨oC_3.out.1.kp hn4 (by omega) (fun b e => by omega), oC_3.out.2.1.kp hn4 (by omega) (fun b e => by omega), oC_3.out.2.2.kp hn4 (by omega) (fun b e => by omega)⟩ : _ ∧ _ ∧ _))
  have K4 : New w w4 := New.one K3 hn4 hwbr
  clear cC0 cC1 cC2 lC
  clear bR_3 bQ_3 bC_3 oC_3 K3 r3 hn4
  obtain ⟨⟨ar, dr, rfl⟩, ⟨aa, da, rfl⟩, ab, db, rfl⟩ := StartM.lens3 hM
  have oS_4 := Lib.hid hM
  have hlS := Lib.hid hm4
  clear hM hm4
  obtain ⟨hn5, y5, bE_5⟩ := newb w4 (.cells #[.int .i64 pc, .slice ar yr.length dr, .slice aa ya.length da, .slice ab yb.length db] 31)
  go_upto_region 4 with fail
  have yy5 : br < w4.heap.size := r4.lt
  generalize hbE : w4.heap.size = bE at bE_5 y5 yy5 ⊢
  generalize (w4.alloc (.cells #[.int .i64 pc, .slice ar yr.length dr, .slice aa ya.length da, .slice ab yb.length db] 31)) = w5 at *
  have z5 := hn5.size
  have bR_5 := hn5.bk bR_4
  have bQ_5 := hn5.bk bQ_4
  have bC_5 := hn5.bk bC_4
  have oC_5 := Lib.hid ((⟨oC_4.out.1.new (by omega) hn5, oC_4.out.2.1.new (by omega) hn5, oC_4.out.2.2.new (by omega) hn5⟩ : _ ∧ _ ∧ _))
  have oS_5 := Lib.hid (oS_4.out.new (by omega) hn5)
  have K5 := K4.trans hn5
  have r5 := r4.nw hn5
  clear bR_4 bQ_4 bC_4 oC_4 oS_4 K4 r4 hn5
  obtain ⟨cC0, cC1, cC2⟩ := cells3 bC_5
  have lC := heap_lt bC_5
  obtain ⟨cE0, cE1, cE2, cE3⟩ := cells4 bE_5
  have lE := heap_lt bE_5
  obtain ⟨cR0, cR1, cR2⟩ := cells3 bR_5
  have fR := frozen_of_heap bR_5
  have lR := heap_lt bR_5
  obtain ⟨cQ0, cQ1, cQ2, cQ3⟩ := cells4 bQ_5
  have fQ := frozen_of_heap bQ_5
  have lQ := heap_lt bQ_5
  go_wp2_with fail
  refine wp_region_held_drew (S := fun w' => w'.cell? ⟨bC, 0, none⟩ = some (.slice a1 xa.length d1) ∧ w'.cell? ⟨bC, 1, none⟩ = some (.slice a2 xb.length d2) ∧ w'.cell? ⟨bC, 2, none⟩ = some (.slice a3 x.length d3) ∧ w'.cell? ⟨bE, 0, none⟩ = some (.int .i64 pc) ∧ w'.cell? ⟨bE, 1, none⟩ = some (.slice ar yr.length dr) ∧ w'.cell? ⟨bE, 2, none⟩ = some (.slice aa ya.length da) ∧ w'.cell? ⟨bE, 3, none⟩ = some (.slice ab yb.length db)) (by kernel_rfl) ?_ (fun hHeld => ?_)
  · exact ⟨cC0, cC1, cC2, cE0, cE1, cE2, cE3⟩
  clear cC0 cC1 cC2 lC cE0 cE1 cE2 cE3 lE cR0 cR1 cR2 fR lR cQ0 cQ1 cQ2 cQ3 fQ lQ
  have hn6 : New w5 w5.drew := (Kp.refl _ _).drew
  generalize w5.drew = w6 at *
  have z6 := hn6.size
  have bR_6 := hn6.bk bR_5
  have bQ_6 := hn6.bk bQ_5
  have bC_6 := hn6.bk bC_5
  have bE_6 := hn6.bk bE_5
  have oC_6 := Lib.hid ((⟨oC_5.out.1.new (by omega) hn6, oC_5.out.2.1.new (by omega) hn6, oC_5.out.2.2.new (by omega) hn6⟩ : _ ∧ _ ∧ _))
  have oS_6 := Lib.hid (oS_5.out.new (by omega) hn6)
  have K6 := K5.trans hn6
  have r6 := r5.nw hn6
  clear bR_5 bQ_5 bC_5 bE_5 oC_5 oS_5 K5 r5 hn6
  obtain ⟨cC0, cC1, cC2⟩ := cells3 bC_6
  have lC := heap_lt bC_6
  obtain ⟨cE0, cE1, cE2, cE3⟩ := cells4 bE_6
  have lE := heap_lt bE_6
  obtain ⟨cR0, cR1, cR2⟩ := cells3 bR_6
  have fR := frozen_of_heap bR_6
  have lR := heap_lt bR_6
  obtain ⟨cQ0, cQ1, cQ2, cQ3⟩ := cells4 bQ_6
  have fQ := frozen_of_heap bQ_6
  have lQ := heap_lt bQ_6
  refine HT 0 rfl ?_
  try simp only [AP]
  refine HT 1 rfl ?_
  try simp only [AP]
  refine HT 3 rfl ?_
  try simp only [AP]
  refine HR 2 rfl fun K hK => ?_
  go_simp
  refine (DrawU.l6Mutate w6 br (qS) w.heap.size w6.heap.size a1 a2 a3 d1 d2 d3 xa xb x r6 (oC_6.out.1.mono (by omega) (by omega)) (oC_6.out.2.1.mono (by omega) (by omega)) (oC_6.out.2.2.mono (by omega) (by omega)) (Nat.le_refl _) (by omega) (by omega) (by omega) (by omega)).mono ?_
  rintro e w7 ⟨e1, e2, e3, f1, f2, f3, ya', yb', x', qU, rfl, hn7, r7, hqU, hA, hB, hC, hl1, hl2, hl3⟩
  have z7 := hn7.size
  have bR_7 := hn7.bo bR_6
  have bQ_7 := hn7.bo bQ_6
  have bC_7 := hn7.bo bC_6
  have bE_7 := hn7.bo bE_6
  have oC_7 := Lib.hid ((⟨oC_6.out.1.kp hn7 (by omega) (fun b e => by omega), oC_6.out.2.1.kp hn7 (by omega) (fun b e => by omega), oC_6.out.2.2.kp hn7 (by omega) (fun b e => by omega)⟩ : _ ∧ _ ∧ _))
  have oS_7 := Lib.hid (oS_6.out.kp hn7 (fun b e => by omega))
  have K7 : New w w7 := New.one K6 hn7 hwbr
  clear cC0 cC1 cC2 lC cE0 cE1 cE2 cE3 lE cR0 cR1 cR2 fR lR cQ0 cQ1 cQ2 cQ3 fQ lQ
  clear bR_6 bQ_6 bC_6 bE_6 oC_6 oS_6 K6 r6 hn7
  have oD_7 := Lib.hid (show _ ∧ _ ∧ _ from ⟨hA, hB, hC⟩)
  clear hA hB hC
  obtain ⟨cC0, cC1, cC2⟩ := cells3 bC_7
  have lC := heap_lt bC_7
  obtain ⟨cE0, cE1, cE2, cE3⟩ := cells4 bE_7
  have lE := heap_lt bE_7
  obtain ⟨cR0, cR1, cR2⟩ := cells3 bR_7
  have fR := frozen_of_heap bR_7
  have lR := heap_lt bR_7
  obtain ⟨cQ0, cQ1, cQ2, cQ3⟩ := cells4 bQ_7
  have fQ := frozen_of_heap bQ_7
  have lQ := heap_lt bQ_7
  refine hK.out _ _ ?_ (fun hHeld2 => ?_)
  · exact ⟨cC0, cC1, cC2, cE0, cE1, cE2, cE3⟩
  clear hK K hHeld
  have hHeld := hHeld2
  clear hHeld2
  try simp only [AP]
  refine HR 4 rfl fun K hK => ?_
  go_simp
  have hk8 : Kp (fun k => k = w.heap.size) w7 (((w7.setCell ⟨w.heap.size, 0, none⟩ ((.slice e1 ya'.length f1))).setCell ⟨w.heap.size, 1, none⟩ ((.slice e2 yb'.length f2))).setCell ⟨w.heap.size, 2, none⟩ ((.slice e3 x'.length f3))) := (Kp.setCell (Kp.setCell (Kp.setCell (Kp.refl (fun k => k = w.heap.size) _) (.inl rfl) _) (.inl rfl) _) (.inl rfl) _)
  have bR_8 : (((w7.setCell ⟨w.heap.size, 0, none⟩ ((.slice e1 ya'.length f1))).setCell ⟨w.heap.size, 1, none⟩ ((.slice e2 yb'.length f2))).setCell ⟨w.heap.size, 2, none⟩ ((.slice e3 x'.length f3))).heap[w.heap.size]? = some (.cells #[(.slice e1 ya'.length f1), (.slice e2 yb'.length f2), (.slice e3 x'.length f3)] 26) := (setCell_heap (setCell_heap (setCell_heap bR_7 _) _) _)
  generalize (((w7.setCell ⟨w.heap.size, 0, none⟩ ((.slice e1 ya'.length f1))).setCell ⟨w.heap.size, 1, none⟩ ((.slice e2 yb'.length f2))).setCell ⟨w.heap.size, 2, none⟩ ((.slice e3 x'.length f3))) = w8 at *
  have z8 := hk8.size
  have bQ_8 := hk8.bo bQ_7
  have bC_8 := hk8.bo bC_7
  have bE_8 := hk8.bo bE_7
  have oC_8 := Lib.hid ((⟨oC_7.out.1.kp hk8 (by omega) (fun b e => by omega), oC_7.out.2.1.kp hk8 (by omega) (fun b e => by omega), oC_7.out.2.2.kp hk8 (by omega) (fun b e => by omega)⟩ : _ ∧ _ ∧ _))
  have oS_8 := Lib.hid (oS_7.out.kp hk8 (fun b e => by omega))
  have oD_8 := Lib.hid ((⟨oD_7.out.1.kp hk8 (by omega) (fun b e => by omega), oD_7.out.2.1.kp hk8 (by omega) (fun b e => by omega), oD_7.out.2.2.kp hk8 (by omega) (fun b e => by omega)⟩ : _ ∧ _ ∧ _))
  have K8 : New w w8 := New.one K7 hk8 (by omega)
  clear cC0 cC1 cC2 lC cE0 cE1 cE2 cE3 lE cR0 cR1 cR2 fR lR cQ0 cQ1 cQ2 cQ3 fQ lQ
  clear bR_7 bQ_7 bC_7 bE_7 oC_7 oS_7 oD_7 K7 hk8
  obtain ⟨cC0, cC1, cC2⟩ := cells3 bC_8
  have lC := heap_lt bC_8
  obtain ⟨cE0, cE1, cE2, cE3⟩ := cells4 bE_8
  have lE := heap_lt bE_8
  obtain ⟨cR0, cR1, cR2⟩ := cells3 bR_8
  have fR := frozen_of_heap bR_8
  have lR := heap_lt bR_8
  obtain ⟨cQ0, cQ1, cQ2, cQ3⟩ := cells4 bQ_8
  have fQ := frozen_of_heap bQ_8
  have lQ := heap_lt bQ_8
  refine hK.out _ _ ?_ (fun hHeld2 => ?_)
  · exact ⟨cC0, cC1, cC2, cE0, cE1, cE2, cE3⟩
  clear hK K hHeld
  have hHeld := hHeld2
  clear hHeld2
  try simp only [Act.put]
  refine HR 5 rfl fun K hK => ?_
  go_simp
  have hk9 : Kp (fun k => k = w.heap.size + 1) w8 ((((w8.setCell ⟨w.heap.size + 1, 0, none⟩ (.int .i64 pc)).setCell ⟨w.heap.size + 1, 1, none⟩ (.slice ar yr.length dr)).setCell ⟨w.heap.size + 1, 2, none⟩ (.slice aa ya.length da)).setCell ⟨w.heap.size + 1, 3, none⟩ (.slice ab yb.length db)) := (Kp.setCell (Kp.setCell (Kp.setCell (Kp.setCell (Kp.refl (fun k => k = w.heap.size + 1) _) (.inl rfl) _) (.inl rfl) _) (.inl rfl) _) (.inl rfl) _)
  have bQ_9 : ((((w8.setCell ⟨w.heap.size + 1, 0, none⟩ (.int .i64 pc)).setCell ⟨w.heap.size + 1, 1, none⟩ (.slice ar yr.length dr)).setCell ⟨w.heap.size + 1, 2, none⟩ (.slice aa ya.length da)).setCell ⟨w.heap.size + 1, 3, none⟩ (.slice ab yb.length db)).heap[w.heap.size + 1]? = some (.cells #[.int .i64 pc, .slice ar yr.length dr, .slice aa ya.length da, .slice ab yb.length db] 31) := (setCell_heap (setCell_heap (setCell_heap (setCell_heap bQ_8 _) _) _) _)
  generalize ((((w8.setCell ⟨w.heap.size + 1, 0, none⟩ (.int .i64 pc)).setCell ⟨w.heap.size + 1, 1, none⟩ (.slice ar yr.length dr)).setCell ⟨w.heap.size + 1, 2, none⟩ (.slice aa ya.length da)).setCell ⟨w.heap.size + 1, 3, none⟩ (.slice ab yb.length db)) = w9 at *
  have z9 := hk9.size
  have bR_9 := hk9.bo bR_8
  have bC_9 := hk9.bo bC_8
  have bE_9 := hk9.bo bE_8
  have oC_9 := Lib.hid ((⟨oC_8.out.1.kp hk9 (by omega) (fun b e => by omega), oC_8.out.2.1.kp hk9 (by omega) (fun b e => by omega), oC_8.out.2.2.kp hk9 (by omega) (fun b e => by omega)⟩ : _ ∧ _ ∧ _))
  have oS_9 := Lib.hid (oS_8.out.kp hk9 (fun b e => by omega))
  have oD_9 := Lib.hid ((⟨oD_8.out.1.kp hk9 (by omega) (fun b e => by omega), oD_8.out.2.1.kp hk9 (by omega) (fun b e => by omega), oD_8.out.2.2.kp hk9 (by omega) (fun b e => by omega)⟩ : _ ∧ _ ∧ _))
  have K9 : New w w9 := New.one K8 hk9 (by omega)
  clear cC0 cC1 cC2 lC cE0 cE1 cE2 cE3 lE cR0 cR1 cR2 fR lR cQ0 cQ1 cQ2 cQ3 fQ lQ
  clear bR_8 bQ_8 bC_8 bE_8 oC_8 oS_8 oD_8 K8 hk9
  obtain ⟨cC0, cC1, cC2⟩ := cells3 bC_9
  have lC := heap_lt bC_9
  obtain ⟨cE0, cE1, cE2, cE3⟩ := cells4 bE_9
  have lE := heap_lt bE_9
  obtain ⟨cR0, cR1, cR2⟩ := cells3 bR_9
  have fR := frozen_of_heap bR_9
  have lR := heap_lt bR_9
  obtain ⟨cQ0, cQ1, cQ2, cQ3⟩ := cells4 bQ_9
  have fQ := frozen_of_heap bQ_9
  have lQ := heap_lt bQ_9
  refine hK.out _ _ ?_ (fun hHeld2 => ?_)
  · exact ⟨cC0, cC1, cC2, cE0, cE1, cE2, cE3⟩
  clear hK K hHeld
  have hHeld := hHeld2
  clear hHeld2
  try simp only [Act.put]
  refine wpAnyH_done (by kernel_rfl) ?_ _
  go_wp2
  exact bodyPost_ret (results_cell2 rfl _ _ _ _ _ _ _ _ _ _ _ _ rfl rfl bR_9 bQ_9 Try.underlying26 Try.underlying31 rfl rfl (by kernel_rfl) (by kernel_rfl)) rfl ⟨e1, e2, e3, f1, f2, f3, ya', yb', x', pc, _, _, _, yr, ya, yb, rfl, K9, ⟨oD_9.out.1.mono (lo' := w.heap.size) (hi' := w9.heap.size) (by omega) (by omega), oD_9.out.2.1.mono (lo' := w.heap.size) (hi' := w9.heap.size) (by omega) (by omega), oD_9.out.2.2.mono (lo' := w.heap.size) (hi' := w9.heap.size) (by omega) (by omega)⟩, oS_9.out.mono (lo' := w.heap.size) (hi' := w9.heap.size) (by omega) (by omega), by omega, by omega, by omega, hm1, by omega, by omega, hlS.out, by omega, by omega⟩
set_option maxHeartbeats 2000000 in
theorem drawStep (w : World) (a : Option Addr) (len cap : Nat) (h : Src w a len cap) : Calls Try.prog 14 #[.slice a len cap] w (GotV w) := by
  go_enter Try.func14, Try.ntmps14
  go_wp2_with fail
  have N0 : New w ((w.alloc (.cells #[.slice none 0 0, .slice none 0 0, .slice none 0 0] 26)).alloc (.cells #[.int .i64 0, .slice none 0 0, .slice none 0 0, .slice none 0 0] 31)) := ((Kp.refl _ _).alloc _).alloc _
  have bR_0 : ((w.alloc (.cells #[.slice none 0 0, .slice none 0 0, .slice none 0 0] 26)).alloc (.cells #[.int .i64 0, .slice none 0 0, .slice none 0 0, .slice none 0 0] 31)).heap[w.heap.size]? = some (.cells #[.slice none 0 0, .slice none 0 0, .slice none 0 0] 26) := heap_old (alloc_heap _ _)
  have bQ_0 : ((w.alloc (.cells #[.slice none 0 0, .slice none 0 0, .slice none 0 0] 26)).alloc (.cells #[.int .i64 0, .slice none 0 0, .slice none 0 0, .slice none 0 0] 31)).heap[w.heap.size + 1]? = some (.cells #[.int .i64 0, .slice none 0 0, .slice none 0 0, .slice none 0 0] 31) := heap_at (by simp)
  have z0 : w.heap.size + 1 < ((w.alloc (.cells #[.slice none 0 0, .slice none 0 0, .slice none 0 0] 26)).alloc (.cells #[.int .i64 0, .slice none 0 0, .slice none 0 0, .slice none 0 0] 31)).heap.size := by simp
  generalize ((w.alloc (.cells #[.slice none 0 0, .slice none 0 0, .slice none 0 0] 26)).alloc (.cells #[.int .i64 0, .slice none 0 0, .slice none 0 0, .slice none 0 0] 31)) = w0 at *
  refine (drawValid w0 a len cap (h.keep N0)).mono ?_
  rintro e w1 ⟨a1, a2, a3, d1, d2, d3, xa, xb, x, pc, vr, va, vb, yr, ya, yb, rfl, hn1, hC, hO, hrest⟩
  obtain ⟨⟨ar, dr, rfl⟩, ⟨aa, da, rfl⟩, ab, db, rfl⟩ := StartM.lens3 hO
  have hCh := Lib.hid hC
  have hOh := Lib.hid hO
  have hrh := Lib.hid hrest
  have z1 := hn1.size
  have bR := heap_new hn1 bR_0
  have bQ := heap_new hn1 bQ_0
  clear hC hO hrest bR_0 bQ_0 h
  obtain ⟨cR0, cR1, cR2⟩ := cells3 bR
  obtain ⟨cQ0, cQ1, cQ2, cQ3⟩ := cells4 bQ
  have fR := frozen_of_heap bR
  have fQ := frozen_of_heap bQ
  have lR := heap_lt bR
  have lQ := heap_lt bQ
  go_wp2
  have hk1 := setMany_kp (w.heap.size) [.slice a1 xa.length d1, .slice a2 xb.length d2, .slice a3 x.length d3] w1 0
  have hk2 := setMany_kp (w.heap.size + 1) [.int .i64 pc, .slice ar yr.length dr, .slice aa ya.length da, .slice ab yb.length db] (setMany w1 (w.heap.size) 0 [.slice a1 xa.length d1, .slice a2 xb.length d2, .slice a3 x.length d3]) 0
  have zs1 := setMany_size (w.heap.size) [.slice a1 xa.length d1, .slice a2 xb.length d2, .slice a3 x.length d3] w1 0
  have zs2 := setMany_size (w.heap.size + 1) [.int .i64 pc, .slice ar yr.length dr, .slice aa ya.length da, .slice ab yb.length db] (setMany w1 (w.heap.size) 0 [.slice a1 xa.length d1, .slice a2 xb.length d2, .slice a3 x.length d3]) 0
  have hR := setMany_other [.int .i64 pc, .slice ar yr.length dr, .slice aa ya.length da, .slice ab yb.length db] 0 (setMany_row [.slice a1 xa.length d1, .slice a2 xb.length d2, .slice a3 x.length d3] bR rfl) (show w.heap.size ≠ w.heap.size + 1 by omega)
  have hQ := setMany_row [.int .i64 pc, .slice ar yr.length dr, .slice aa ya.length da, .slice ab yb.length db] (setMany_other [.slice a1 xa.length d1, .slice a2 xb.length d2, .slice a3 x.length d3] 0 bQ (show w.heap.size + 1 ≠ w.heap.size by omega)) rfl
  exact bodyPost_ret (results_cell2 rfl _ _ _ _ _ _ _ _ _ _ _ _ rfl rfl hR hQ Try.underlying26 Try.underlying31 rfl rfl (by kernel_rfl) (by kernel_rfl)) rfl ⟨a1, a2, a3, d1, d2, d3, xa, xb, x, pc, _, _, _, yr, ya, yb, rfl, New.one (New.one (N0.trans hn1) hk1 (by omega)) hk2 (by omega), ⟨((hCh.out.1.kp hk1 (by omega) (fun b e => by omega)).kp hk2 (by omega) (fun b e => by omega)).mono (lo' := w.heap.size) (hi' := (setMany (setMany w1 (w.heap.size) 0 [.slice a1 xa.length d1, .slice a2 xb.length d2, .slice a3 x.length d3]) (w.heap.size + 1) 0 [.int .i64 pc, .slice ar yr.length dr, .slice aa ya.length da, .slice ab yb.length db]).heap.size) (by omega) (by omega), ((hCh.out.2.1.kp hk1 (by omega) (fun b e => by omega)).kp hk2 (by omega) (fun b e => by omega)).mono (lo' := w.heap.size) (hi' := (setMany (setMany w1 (w.heap.size) 0 [.slice a1 xa.length d1, .slice a2 xb.length d2, .slice a3 x.length d3]) (w.heap.size + 1) 0 [.int .i64 pc, .slice ar yr.length dr, .slice aa ya.length da, .slice ab yb.length db]).heap.size) (by omega) (by omega), ((hCh.out.2.2.kp hk1 (by omega) (fun b e => by omega)).kp hk2 (by omega) (fun b e => by omega)).mono (lo' := w.heap.size) (hi' := (setMany (setMany w1 (w.heap.size) 0 [.slice a1 xa.length d1, .slice a2 xb.length d2, .slice a3 x.length d3]) (w.heap.size + 1) 0 [.int .i64 pc, .slice ar yr.length dr, .slice aa ya.length da, .slice ab yb.length db]).heap.size) (by omega) (by omega)⟩, ((hOh.out.kp hk1 (fun b e => by omega)).kp hk2 (fun b e => by omega)).mono (lo' := w.heap.size) (hi' := (setMany (setMany w1 (w.heap.size) 0 [.slice a1 xa.length d1, .slice a2 xb.length d2, .slice a3 x.length d3]) (w.heap.size + 1) 0 [.int .i64 pc, .slice ar yr.length dr, .slice aa ya.length da, .slice ab yb.length db]).heap.size) (by omega) (by omega), hrh.out⟩
end Go.Proofs.Ytljokgoghphgdaa.DrawA
