/- The draw of two states of a machine: DrawMachineSame. No conditions. -/
import Derived.Test.YtljokgoghphgdaaQDrawN
import Derived.Test.YtljokgoghphgdaaQP5
namespace Go.Proofs.Ytljokgoghphgdaa.DrawE
open Go.RowKit Kit Draw DrawX MarkC
set_option linter.unusedVariables false
theorem results_cell2 {P : Program} {fn : Func} {p q : Tmp} {ty ty2 : TypeId} (h : fn.results = #[.cell p ty, .cell q ty2]) (tmps : Array Value) (w : World) (g g2 : Nat) (t t2 : TypeId) (cs cs2 : Array Value) (fr fr2 : Nat × Nat) (d d2 : TypeDesc)
    (hp : tmps.getD p undef = .pointer (some ⟨g, 0, none⟩)) (hq : tmps.getD q undef = .pointer (some ⟨g2, 0, none⟩)) (hg : w.heap[g]? = some (.cells cs t fr)) (hg2 : w.heap[g2]? = some (.cells cs2 t2 fr2))
    (hu : P.underlying ty = some d) (hu2 : P.underlying ty2 = some d2) (hd : (match d with | .struct _ | .array _ _ => true | _ => false) = true) (hd2 : (match d2 with | .struct _ | .array _ _ => true | _ => false) = true) (hi : (P.info? ty).map (·.size) = some cs.size) (hi2 : (P.info? ty2).map (·.size) = some cs2.size) :
    (results fn tmps).run P w = .ok (.tuple #[.agg cs, .agg cs2]) w := by
  have hp' : tmps[p]?.getD undef = .pointer (some ⟨g, 0, none⟩) := by simpa using hp
  have hq' : tmps[q]?.getD undef = .pointer (some ⟨g2, 0, none⟩) := by simpa using hq
  simp [results, h, hp', hq', asAddr, run_loadVar_row w g t ty cs fr d hg hu hd hi, run_loadVar_row w g2 t2 ty2 cs2 fr2 d2 hg2 hu2 hd2 hi2]
/-- a machine's registers, values and rows, read in one range -/
def R3 (w : World) (lo hi : Nat) (vr va vb : Value) (yr ya : List Int) (yb : List (List Int)) : Prop := IntsR w lo hi vr yr ∧ IntsR w lo hi va ya ∧ MatR w lo hi vb yb
set_option maxHeartbeats 16000000 in
set_option maxRecDepth 100000 in
theorem drawSame (w : World) (a : Option Addr) (len cap : Nat) (h : Src w a len cap) :
    Calls Try.prog 28 #[.slice a len cap] w fun e w' => ∃ (pc pd : Int) (mr ma mb nr na nb : Value) (xr xa yr ya : List Int) (xb yb : List (List Int)), e = .returned (.tuple #[.agg #[.int .i64 pc, mr, ma, mb], .agg #[.int .i64 pd, nr, na, nb]]) ∧ New w w' ∧ R3 w' w.heap.size w'.heap.size mr ma mb xr xa xb ∧ R3 w' w.heap.size w'.heap.size nr na nb yr ya yb := by
  go_enter Try.func28, Try.ntmps28
  go_upto_region 1 with fail
  have N0 : New w ((w.alloc (.cells #[.int .i64 0, .slice none 0 0, .slice none 0 0, .slice none 0 0] 31)).alloc (.cells #[.int .i64 0, .slice none 0 0, .slice none 0 0, .slice none 0 0] 31)) := ((Kp.refl _ _).alloc _).alloc _
  have bR_0 : ((w.alloc (.cells #[.int .i64 0, .slice none 0 0, .slice none 0 0, .slice none 0 0] 31)).alloc (.cells #[.int .i64 0, .slice none 0 0, .slice none 0 0, .slice none 0 0] 31)).heap[w.heap.size]? = some (.cells #[.int .i64 0, .slice none 0 0, .slice none 0 0, .slice none 0 0] 31) := heap_old (alloc_heap _ _)
  have bQ_0 : ((w.alloc (.cells #[.int .i64 0, .slice none 0 0, .slice none 0 0, .slice none 0 0] 31)).alloc (.cells #[.int .i64 0, .slice none 0 0, .slice none 0 0, .slice none 0 0] 31)).heap[w.heap.size + 1]? = some (.cells #[.int .i64 0, .slice none 0 0, .slice none 0 0, .slice none 0 0] 31) := heap_at (by simp)
  have z0 : w.heap.size + 1 < ((w.alloc (.cells #[.int .i64 0, .slice none 0 0, .slice none 0 0, .slice none 0 0] 31)).alloc (.cells #[.int .i64 0, .slice none 0 0, .slice none 0 0, .slice none 0 0] 31)).heap.size := by simp
  generalize ((w.alloc (.cells #[.int .i64 0, .slice none 0 0, .slice none 0 0, .slice none 0 0] 31)).alloc (.cells #[.int .i64 0, .slice none 0 0, .slice none 0 0, .slice none 0 0] 31)) = w0 at *
  have s0 := h.keep N0
  go_wp2_with fail
  refine (Draw.l17Open w0 _ _ _ s0.1 s0.2.1 s0.2.2).mono ?_
  rintro e w1 ⟨rfl, hn1, r1⟩
  have z1 : w0.heap.size ≤ w1.heap.size := hn1.size
  have bR_1 := heap_new hn1 bR_0
  have bQ_1 := heap_new hn1 bQ_0
  have K1 : New w w1 := N0.trans hn1
  have hwbr : w.heap.size + 2 ≤ w0.heap.size := by omega
  generalize hbr : w0.heap.size = br at *
  have hwbr1 : w.heap.size ≤ br := by omega
  clear hbr N0 hn1 bR_0 bQ_0 z0 s0 h
  go_wp2_with fail
  refine (DrawD.l6Code w1 br 0 r1 (by omega)).mono ?_
  rintro e w2 ⟨a1, a2, a3, d1, d2, d3, xa, xb, x, q, rfl, hn2, r2, hq, hA, hB, hC, hxa, hxb, hx⟩
  have hbl : br < w1.heap.size := r1.lt
  have z2 : w1.heap.size ≤ w2.heap.size := hn2.size
  have bR_2 := (hn2.block _ (heap_lt bR_1) (by omega)).trans bR_1
  have bQ_2 := (hn2.block _ (heap_lt bQ_1) (by omega)).trans bQ_1
  have K2 : New w w2 := New.one K1 hn2 hwbr1
  clear bR_1 bQ_1 K1 r1 hn2
  clear hA hB hC
  have hn3 : New w2 (w2.alloc (.cells #[.slice a1 xa.length d1, .slice a2 xb.length d2, .slice a3 x.length d3] 26)) := (Kp.refl _ _).alloc _
  have y3 : w2.heap.size < (w2.alloc (.cells #[.slice a1 xa.length d1, .slice a2 xb.length d2, .slice a3 x.length d3] 26)).heap.size := lt_alloc _ _
  have bC_3 := alloc_heap w2 (.cells #[.slice a1 xa.length d1, .slice a2 xb.length d2, .slice a3 x.length d3] 26)
  go_upto_region 3 with fail
  have yy3 : br < w2.heap.size := r2.lt
  generalize hbC : w2.heap.size = bC at bC_3 y3 yy3 ⊢
  generalize (w2.alloc (.cells #[.slice a1 xa.length d1, .slice a2 xb.length d2, .slice a3 x.length d3] 26)) = w3 at *
  have z3 : w2.heap.size ≤ w3.heap.size := hn3.size
  have bR_3 := (hn3.block _ (heap_lt bR_2) (fun f => f)).trans bR_2
  have bQ_3 := (hn3.block _ (heap_lt bQ_2) (fun f => f)).trans bQ_2
  have K3 : New w w3 := K2.trans hn3
  have r3 := r2.keep hn3 (fun _ f => f.elim)
  clear bR_2 bQ_2 K2 r2 hn3
  have cC0 := cell_of_heap bC_3 0
  have cC1 := cell_of_heap bC_3 1
  have cC2 := cell_of_heap bC_3 2
  have lC := heap_lt bC_3
  go_wp2_with fail
  refine (DrawN.l6State w3 br (q) a1 a2 a3 xa.length d1 xb.length d2 x.length d3 r3 (by omega) (by omega) (by omega) (by omega)).mono ?_
  rintro e w4 ⟨pcS, vrS, vaS, vbS, yrS, yaS, ybS, qS, rfl, hn4, r4, hqS, hMS, hmS1, hmS2, hmS3, hmS4, hmS5, hmS6⟩
  have z4 : w3.heap.size ≤ w4.heap.size := hn4.size
  have bR_4 := (hn4.block _ (heap_lt bR_3) (by omega)).trans bR_3
  have bQ_4 := (hn4.block _ (heap_lt bQ_3) (by omega)).trans bQ_3
  have bC_4 := (hn4.block _ (heap_lt bC_3) (by omega)).trans bC_3
  have K4 : New w w4 := New.one K3 hn4 hwbr1
  clear cC0 cC1 cC2 lC
  clear bR_3 bQ_3 bC_3 K3 r3 hn4
  obtain ⟨⟨arS, drS, rfl⟩, ⟨aaS, daS, rfl⟩, abS, dbS, rfl⟩ := StartM.lens3 hMS
  have oS_4 := Lib.hid (hMS.reads)
  have hlS := Lib.hid hmS4
  clear hMS hmS4
  have hn5 : New w4 (w4.alloc (.cells #[.int .i64 pcS, .slice arS yrS.length drS, .slice aaS yaS.length daS, .slice abS ybS.length dbS] 31)) := (Kp.refl _ _).alloc _
  have y5 : w4.heap.size < (w4.alloc (.cells #[.int .i64 pcS, .slice arS yrS.length drS, .slice aaS yaS.length daS, .slice abS ybS.length dbS] 31)).heap.size := lt_alloc _ _
  have bE_5 := alloc_heap w4 (.cells #[.int .i64 pcS, .slice arS yrS.length drS, .slice aaS yaS.length daS, .slice abS ybS.length dbS] 31)
  go_upto_region 4 with fail
  have yy5 : br < w4.heap.size := r4.lt
  generalize hbE : w4.heap.size = bE at bE_5 y5 yy5 ⊢
  generalize (w4.alloc (.cells #[.int .i64 pcS, .slice arS yrS.length drS, .slice aaS yaS.length daS, .slice abS ybS.length dbS] 31)) = w5 at *
  have z5 : w4.heap.size ≤ w5.heap.size := hn5.size
  have bR_5 := (hn5.block _ (heap_lt bR_4) (fun f => f)).trans bR_4
  have bQ_5 := (hn5.block _ (heap_lt bQ_4) (fun f => f)).trans bQ_4
  have bC_5 := (hn5.block _ (heap_lt bC_4) (fun f => f)).trans bC_4
  have oS_5 := Lib.hid ((⟨oS_4.out.1.new (by omega) hn5, oS_4.out.2.1.new (by omega) hn5, oS_4.out.2.2.new (by omega) hn5⟩ : _ ∧ _ ∧ _))
  have K5 : New w w5 := K4.trans hn5
  have r5 := r4.keep hn5 (fun _ f => f.elim)
  clear bR_4 bQ_4 bC_4 oS_4 K4 r4 hn5
  go_wp2_with fail
  refine (pick w5 br (qS) _ r5 (by omega)).mono ?_
  rintro e w6 ⟨u, rfl, u0, u1, u2, hn6, r6⟩
  have z6 : w5.heap.size ≤ w6.heap.size := hn6.size
  have bR_6 := (hn6.block _ (heap_lt bR_5) (by omega)).trans bR_5
  have bQ_6 := (hn6.block _ (heap_lt bQ_5) (by omega)).trans bQ_5
  have bC_6 := (hn6.block _ (heap_lt bC_5) (by omega)).trans bC_5
  have bE_6 := (hn6.block _ (heap_lt bE_5) (by omega)).trans bE_5
  have oS_6 := Lib.hid ((⟨oS_5.out.1.kp hn6 (by omega) (fun b e => by omega), oS_5.out.2.1.kp hn6 (by omega) (fun b e => by omega), oS_5.out.2.2.kp hn6 (by omega) (fun b e => by omega)⟩ : _ ∧ _ ∧ _))
  have K6 : New w w6 := New.one K5 hn6 hwbr1
  clear bR_5 bQ_5 bC_5 bE_5 oS_5 K5 r5 hn6
  clear u1 u2
  by_cases hu : u = 0
  · subst hu
    have cE0 := cell_of_heap bE_6 0
    have cE1 := cell_of_heap bE_6 1
    have cE2 := cell_of_heap bE_6 2
    have cE3 := cell_of_heap bE_6 3
    have lE := heap_lt bE_6
    have cC0 := cell_of_heap bC_6 0
    have cC1 := cell_of_heap bC_6 1
    have cC2 := cell_of_heap bC_6 2
    have lC := heap_lt bC_6
    go_wp2_with fail
    have cR0 := cell_of_heap bR_6 0
    have cR1 := cell_of_heap bR_6 1
    have cR2 := cell_of_heap bR_6 2
    have cR3 := cell_of_heap bR_6 3
    have fR := frozen_of_heap bR_6
    have lR := heap_lt bR_6
    have cQ0 := cell_of_heap bQ_6 0
    have cQ1 := cell_of_heap bQ_6 1
    have cQ2 := cell_of_heap bQ_6 2
    have cQ3 := cell_of_heap bQ_6 3
    have fQ := frozen_of_heap bQ_6
    have lQ := heap_lt bQ_6
    refine wp_region_held_drew (S := fun w' => w'.cell? ⟨bE, 0, none⟩ = some (.int .i64 pcS) ∧ w'.cell? ⟨bE, 1, none⟩ = some (.slice arS yrS.length drS) ∧ w'.cell? ⟨bE, 2, none⟩ = some (.slice aaS yaS.length daS) ∧ w'.cell? ⟨bE, 3, none⟩ = some (.slice abS ybS.length dbS) ∧ w'.cell? ⟨bC, 0, none⟩ = some (.slice a1 xa.length d1) ∧ w'.cell? ⟨bC, 1, none⟩ = some (.slice a2 xb.length d2) ∧ w'.cell? ⟨bC, 2, none⟩ = some (.slice a3 x.length d3)) (by kernel_rfl) ?_ (fun hHeld => ?_)
    · exact ⟨cE0, cE1, cE2, cE3, cC0, cC1, cC2⟩
    clear cE0 cE1 cE2 cE3 lE cC0 cC1 cC2 lC cR0 cR1 cR2 cR3 fR lR cQ0 cQ1 cQ2 cQ3 fQ lQ
    have hn7 : New w6 w6.drew := (Kp.refl _ _).drew
    generalize w6.drew = w7 at *
    have z7 : w6.heap.size ≤ w7.heap.size := hn7.size
    have bR_7 := (hn7.block _ (heap_lt bR_6) (fun f => f)).trans bR_6
    have bQ_7 := (hn7.block _ (heap_lt bQ_6) (fun f => f)).trans bQ_6
    have bC_7 := (hn7.block _ (heap_lt bC_6) (fun f => f)).trans bC_6
    have bE_7 := (hn7.block _ (heap_lt bE_6) (fun f => f)).trans bE_6
    have oS_7 := Lib.hid ((⟨oS_6.out.1.new (by omega) hn7, oS_6.out.2.1.new (by omega) hn7, oS_6.out.2.2.new (by omega) hn7⟩ : _ ∧ _ ∧ _))
    have K7 : New w w7 := K6.trans hn7
    have r7 := r6.keep hn7 (fun _ f => f.elim)
    clear bR_6 bQ_6 bC_6 bE_6 oS_6 K6 r6 hn7
    have cE0 := cell_of_heap bE_7 0
    have cE1 := cell_of_heap bE_7 1
    have cE2 := cell_of_heap bE_7 2
    have cE3 := cell_of_heap bE_7 3
    have lE := heap_lt bE_7
    have cC0 := cell_of_heap bC_7 0
    have cC1 := cell_of_heap bC_7 1
    have cC2 := cell_of_heap bC_7 2
    have lC := heap_lt bC_7
    have cR0 := cell_of_heap bR_7 0
    have cR1 := cell_of_heap bR_7 1
    have cR2 := cell_of_heap bR_7 2
    have cR3 := cell_of_heap bR_7 3
    have fR := frozen_of_heap bR_7
    have lR := heap_lt bR_7
    have cQ0 := cell_of_heap bQ_7 0
    have cQ1 := cell_of_heap bQ_7 1
    have cQ2 := cell_of_heap bQ_7 2
    have cQ3 := cell_of_heap bQ_7 3
    have fQ := frozen_of_heap bQ_7
    have lQ := heap_lt bQ_7
    refine wpAnyH_take (i := 0) (v := ?vbq0) rfl (by kernel_rfl) (by kernel_rfl) (by kernel_rfl) (fun _ _ _ h => h) (Or.inl ⟨by kernel_rfl, ?ybq0⟩) (by assumption) ?rbq0
    case ybq0 =>
      intro w hSw
      try dsimp only at hSw
      go_simp
      try with_reducible rfl
    try simp only [Act.put, List.getElem_toArray, List.getElem_cons_zero, List.setIfInBounds_toArray, List.set_cons_zero, List.set_cons_succ]
    refine wpAnyH_take (i := 1) (v := ?vbq1) rfl (by kernel_rfl) (by kernel_rfl) (by kernel_rfl) (fun _ _ _ h => h) (Or.inl ⟨by kernel_rfl, ?ybq1⟩) (by assumption) ?rbq1
    case ybq1 =>
      intro w hSw
      try dsimp only at hSw
      go_simp
      try with_reducible rfl
    try simp only [Act.put, List.getElem_toArray, List.getElem_cons_zero, List.getElem_cons_succ, List.setIfInBounds_toArray, List.set_cons_zero, List.set_cons_succ]
    refine wpAnyH_take (i := 2) (v := ?vbq2) rfl (by kernel_rfl) (by kernel_rfl) (by kernel_rfl) (fun _ _ _ h => h) (Or.inl ⟨by kernel_rfl, ?ybq2⟩) (by assumption) ?rbq2
    case ybq2 =>
      intro w hSw
      try dsimp only at hSw
      go_simp
      try with_reducible rfl
    try simp only [Act.put, List.getElem_toArray, List.getElem_cons_zero, List.getElem_cons_succ, List.setIfInBounds_toArray, List.set_cons_zero, List.set_cons_succ]
    refine wpAnyH_ready (rs := [3]) (by kernel_rfl) (by simp) ?_
    refine AllReadyH.cons rfl (fun K hK => ?_) AllReadyH.nil
    go_simp
    refine (DrawN.l6State w7 br (qS + 1) a1 a2 a3 xa.length d1 xb.length d2 x.length d3 r7 (by omega) (by omega) (by omega) (by omega)).mono ?_
    rintro e w8 ⟨pcT, vrT, vaT, vbT, yrT, yaT, ybT, qT, rfl, hn8, r8, hqT, hMT, hmT1, hmT2, hmT3, hmT4, hmT5, hmT6⟩
    have z8 : w7.heap.size ≤ w8.heap.size := hn8.size
    have bR_8 := (hn8.block _ (heap_lt bR_7) (by omega)).trans bR_7
    have bQ_8 := (hn8.block _ (heap_lt bQ_7) (by omega)).trans bQ_7
    have bC_8 := (hn8.block _ (heap_lt bC_7) (by omega)).trans bC_7
    have bE_8 := (hn8.block _ (heap_lt bE_7) (by omega)).trans bE_7
    have oS_8 := Lib.hid ((⟨oS_7.out.1.kp hn8 (by omega) (fun b e => by omega), oS_7.out.2.1.kp hn8 (by omega) (fun b e => by omega), oS_7.out.2.2.kp hn8 (by omega) (fun b e => by omega)⟩ : _ ∧ _ ∧ _))
    have K8 : New w w8 := New.one K7 hn8 hwbr1
    clear cE0 cE1 cE2 cE3 lE cC0 cC1 cC2 lC cR0 cR1 cR2 cR3 fR lR cQ0 cQ1 cQ2 cQ3 fQ lQ
    clear bR_7 bQ_7 bC_7 bE_7 oS_7 K7 r7 hn8
    obtain ⟨⟨arT, drT, rfl⟩, ⟨aaT, daT, rfl⟩, abT, dbT, rfl⟩ := StartM.lens3 hMT
    have oT_8 := Lib.hid (hMT.reads)
    have hlT := Lib.hid hmT4
    clear hMT hmT4
    have cE0 := cell_of_heap bE_8 0
    have cE1 := cell_of_heap bE_8 1
    have cE2 := cell_of_heap bE_8 2
    have cE3 := cell_of_heap bE_8 3
    have lE := heap_lt bE_8
    have cC0 := cell_of_heap bC_8 0
    have cC1 := cell_of_heap bC_8 1
    have cC2 := cell_of_heap bC_8 2
    have lC := heap_lt bC_8
    have cR0 := cell_of_heap bR_8 0
    have cR1 := cell_of_heap bR_8 1
    have cR2 := cell_of_heap bR_8 2
    have cR3 := cell_of_heap bR_8 3
    have fR := frozen_of_heap bR_8
    have lR := heap_lt bR_8
    have cQ0 := cell_of_heap bQ_8 0
    have cQ1 := cell_of_heap bQ_8 1
    have cQ2 := cell_of_heap bQ_8 2
    have cQ3 := cell_of_heap bQ_8 3
    have fQ := frozen_of_heap bQ_8
    have lQ := heap_lt bQ_8
    refine hK.out _ _ ?_ (fun hHeld2 => ?_)
    · exact ⟨cE0, cE1, cE2, cE3, cC0, cC1, cC2⟩
    clear hK K hHeld
    have hHeld := hHeld2
    clear hHeld2
    try simp only [Act.put, List.getElem_toArray, List.getElem_cons_zero, List.getElem_cons_succ, List.setIfInBounds_toArray, List.set_cons_zero, List.set_cons_succ]
    refine wpAnyH_ready (rs := [4]) (by kernel_rfl) (by simp) ?_
    refine AllReadyH.cons rfl (fun K hK => ?_) AllReadyH.nil
    go_simp
    have hk9 : Kp (fun k => k = w.heap.size) w8 ((((w8.setCell ⟨w.heap.size, 0, none⟩ (.int .i64 pcS)).setCell ⟨w.heap.size, 1, none⟩ (.slice arS yrS.length drS)).setCell ⟨w.heap.size, 2, none⟩ (.slice aaS yaS.length daS)).setCell ⟨w.heap.size, 3, none⟩ (.slice abS ybS.length dbS)) := (Kp.setCell (Kp.setCell (Kp.setCell (Kp.setCell (Kp.refl (fun k => k = w.heap.size) _) (.inl rfl) _) (.inl rfl) _) (.inl rfl) _) (.inl rfl) _)
    have bR_9 : ((((w8.setCell ⟨w.heap.size, 0, none⟩ (.int .i64 pcS)).setCell ⟨w.heap.size, 1, none⟩ (.slice arS yrS.length drS)).setCell ⟨w.heap.size, 2, none⟩ (.slice aaS yaS.length daS)).setCell ⟨w.heap.size, 3, none⟩ (.slice abS ybS.length dbS)).heap[w.heap.size]? = some (.cells #[.int .i64 pcS, .slice arS yrS.length drS, .slice aaS yaS.length daS, .slice abS ybS.length dbS] 31) := (setCell_heap (setCell_heap (setCell_heap (setCell_heap bR_8 _) _) _) _)
    generalize ((((w8.setCell ⟨w.heap.size, 0, none⟩ (.int .i64 pcS)).setCell ⟨w.heap.size, 1, none⟩ (.slice arS yrS.length drS)).setCell ⟨w.heap.size, 2, none⟩ (.slice aaS yaS.length daS)).setCell ⟨w.heap.size, 3, none⟩ (.slice abS ybS.length dbS)) = w9 at *
    have z9 : w8.heap.size ≤ w9.heap.size := hk9.size
    have bQ_9 := (hk9.block _ (heap_lt bQ_8) (by omega)).trans bQ_8
    have bC_9 := (hk9.block _ (heap_lt bC_8) (by omega)).trans bC_8
    have bE_9 := (hk9.block _ (heap_lt bE_8) (by omega)).trans bE_8
    have oS_9 := Lib.hid ((⟨oS_8.out.1.kp hk9 (by omega) (fun b e => by omega), oS_8.out.2.1.kp hk9 (by omega) (fun b e => by omega), oS_8.out.2.2.kp hk9 (by omega) (fun b e => by omega)⟩ : _ ∧ _ ∧ _))
    have oT_9 := Lib.hid ((⟨oT_8.out.1.kp hk9 (by omega) (fun b e => by omega), oT_8.out.2.1.kp hk9 (by omega) (fun b e => by omega), oT_8.out.2.2.kp hk9 (by omega) (fun b e => by omega)⟩ : _ ∧ _ ∧ _))
    have K9 : New w w9 := New.one K8 hk9 (by omega)
    clear cE0 cE1 cE2 cE3 lE cC0 cC1 cC2 lC cR0 cR1 cR2 cR3 fR lR cQ0 cQ1 cQ2 cQ3 fQ lQ
    clear bR_8 bQ_8 bC_8 bE_8 oS_8 oT_8 K8 hk9
    have cE0 := cell_of_heap bE_9 0
    have cE1 := cell_of_heap bE_9 1
    have cE2 := cell_of_heap bE_9 2
    have cE3 := cell_of_heap bE_9 3
    have lE := heap_lt bE_9
    have cC0 := cell_of_heap bC_9 0
    have cC1 := cell_of_heap bC_9 1
    have cC2 := cell_of_heap bC_9 2
    have lC := heap_lt bC_9
    have cR0 := cell_of_heap bR_9 0
    have cR1 := cell_of_heap bR_9 1
    have cR2 := cell_of_heap bR_9 2
    have cR3 := cell_of_heap bR_9 3
    have fR := frozen_of_heap bR_9
    have lR := heap_lt bR_9
    have cQ0 := cell_of_heap bQ_9 0
    have cQ1 := cell_of_heap bQ_9 1
    have cQ2 := cell_of_heap bQ_9 2
    have cQ3 := cell_of_heap bQ_9 3
    have fQ := frozen_of_heap bQ_9
    have lQ := heap_lt bQ_9
    refine hK.out _ _ ?_ (fun hHeld2 => ?_)
    · exact ⟨cE0, cE1, cE2, cE3, cC0, cC1, cC2⟩
    clear hK K hHeld
    have hHeld := hHeld2
    clear hHeld2
    try simp only [Act.put]
    refine wpAnyH_ready (rs := [5]) (by kernel_rfl) (by simp) ?_
    refine AllReadyH.cons rfl (fun K hK => ?_) AllReadyH.nil
    go_simp
    have hk10 : Kp (fun k => k = w.heap.size + 1) w9 ((((w9.setCell ⟨w.heap.size + 1, 0, none⟩ (.int .i64 pcT)).setCell ⟨w.heap.size + 1, 1, none⟩ (.slice arT yrT.length drT)).setCell ⟨w.heap.size + 1, 2, none⟩ (.slice aaT yaT.length daT)).setCell ⟨w.heap.size + 1, 3, none⟩ (.slice abT ybT.length dbT)) := (Kp.setCell (Kp.setCell (Kp.setCell (Kp.setCell (Kp.refl (fun k => k = w.heap.size + 1) _) (.inl rfl) _) (.inl rfl) _) (.inl rfl) _) (.inl rfl) _)
    have bQ_10 : ((((w9.setCell ⟨w.heap.size + 1, 0, none⟩ (.int .i64 pcT)).setCell ⟨w.heap.size + 1, 1, none⟩ (.slice arT yrT.length drT)).setCell ⟨w.heap.size + 1, 2, none⟩ (.slice aaT yaT.length daT)).setCell ⟨w.heap.size + 1, 3, none⟩ (.slice abT ybT.length dbT)).heap[w.heap.size + 1]? = some (.cells #[.int .i64 pcT, .slice arT yrT.length drT, .slice aaT yaT.length daT, .slice abT ybT.length dbT] 31) := (setCell_heap (setCell_heap (setCell_heap (setCell_heap bQ_9 _) _) _) _)
    generalize ((((w9.setCell ⟨w.heap.size + 1, 0, none⟩ (.int .i64 pcT)).setCell ⟨w.heap.size + 1, 1, none⟩ (.slice arT yrT.length drT)).setCell ⟨w.heap.size + 1, 2, none⟩ (.slice aaT yaT.length daT)).setCell ⟨w.heap.size + 1, 3, none⟩ (.slice abT ybT.length dbT)) = w10 at *
    have z10 : w9.heap.size ≤ w10.heap.size := hk10.size
    have bR_10 := (hk10.block _ (heap_lt bR_9) (by omega)).trans bR_9
    have bC_10 := (hk10.block _ (heap_lt bC_9) (by omega)).trans bC_9
    have bE_10 := (hk10.block _ (heap_lt bE_9) (by omega)).trans bE_9
    have oS_10 := Lib.hid ((⟨oS_9.out.1.kp hk10 (by omega) (fun b e => by omega), oS_9.out.2.1.kp hk10 (by omega) (fun b e => by omega), oS_9.out.2.2.kp hk10 (by omega) (fun b e => by omega)⟩ : _ ∧ _ ∧ _))
    have oT_10 := Lib.hid ((⟨oT_9.out.1.kp hk10 (by omega) (fun b e => by omega), oT_9.out.2.1.kp hk10 (by omega) (fun b e => by omega), oT_9.out.2.2.kp hk10 (by omega) (fun b e => by omega)⟩ : _ ∧ _ ∧ _))
    have K10 : New w w10 := New.one K9 hk10 (by omega)
    clear cE0 cE1 cE2 cE3 lE cC0 cC1 cC2 lC cR0 cR1 cR2 cR3 fR lR cQ0 cQ1 cQ2 cQ3 fQ lQ
    clear bR_9 bQ_9 bC_9 bE_9 oS_9 oT_9 K9 hk10
    have cE0 := cell_of_heap bE_10 0
    have cE1 := cell_of_heap bE_10 1
    have cE2 := cell_of_heap bE_10 2
    have cE3 := cell_of_heap bE_10 3
    have lE := heap_lt bE_10
    have cC0 := cell_of_heap bC_10 0
    have cC1 := cell_of_heap bC_10 1
    have cC2 := cell_of_heap bC_10 2
    have lC := heap_lt bC_10
    have cR0 := cell_of_heap bR_10 0
    have cR1 := cell_of_heap bR_10 1
    have cR2 := cell_of_heap bR_10 2
    have cR3 := cell_of_heap bR_10 3
    have fR := frozen_of_heap bR_10
    have lR := heap_lt bR_10
    have cQ0 := cell_of_heap bQ_10 0
    have cQ1 := cell_of_heap bQ_10 1
    have cQ2 := cell_of_heap bQ_10 2
    have cQ3 := cell_of_heap bQ_10 3
    have fQ := frozen_of_heap bQ_10
    have lQ := heap_lt bQ_10
    refine hK.out _ _ ?_ (fun hHeld2 => ?_)
    · exact ⟨cE0, cE1, cE2, cE3, cC0, cC1, cC2⟩
    clear hK K hHeld
    have hHeld := hHeld2
    clear hHeld2
    try simp only [Act.put]
    refine wpAnyH_done (by kernel_rfl) ?_ _
    go_wp2
    exact bodyPost_ret (results_cell2 rfl _ _ _ _ _ _ _ _ _ _ _ _ rfl rfl bR_10 bQ_10 Try.underlying31 Try.underlying31 rfl rfl (by kernel_rfl) (by kernel_rfl)) rfl ⟨_, _, _, _, _, _, _, _, yrS, yaS, yrT, yaT, ybS, ybT, rfl, K10, ⟨oS_10.out.1.mono (lo' := w.heap.size) (hi' := w10.heap.size) (by omega) (by omega), oS_10.out.2.1.mono (lo' := w.heap.size) (hi' := w10.heap.size) (by omega) (by omega), oS_10.out.2.2.mono (lo' := w.heap.size) (hi' := w10.heap.size) (by omega) (by omega)⟩, ⟨oT_10.out.1.mono (lo' := w.heap.size) (hi' := w10.heap.size) (by omega) (by omega), oT_10.out.2.1.mono (lo' := w.heap.size) (hi' := w10.heap.size) (by omega) (by omega), oT_10.out.2.2.mono (lo' := w.heap.size) (hi' := w10.heap.size) (by omega) (by omega)⟩⟩
  have hub : (u == 0) = false := by simpa using hu
  have cE0 := cell_of_heap bE_6 0
  have cE1 := cell_of_heap bE_6 1
  have cE2 := cell_of_heap bE_6 2
  have cE3 := cell_of_heap bE_6 3
  have lE := heap_lt bE_6
  go_wp2_with fail
  refine (CopyS.l6Copy w6 w.heap.size w6.heap.size _ _ _ _ yrS yaS ybS (oS_6.out.1.mono (by omega) (by omega)) (oS_6.out.2.1.mono (by omega) (by omega)) (oS_6.out.2.2.mono (by omega) (by omega)) (Nat.le_refl _) (by omega) (by omega) (by omega) (fun y hy => by have := hlS.out y hy; omega)).mono ?_
  rintro e w7 ⟨vrT, vaT, vbT, rfl, hn7, hMT⟩
  have z7 : w6.heap.size ≤ w7.heap.size := hn7.size
  have bR_7 := (hn7.block _ (heap_lt bR_6) (fun f => f)).trans bR_6
  have bQ_7 := (hn7.block _ (heap_lt bQ_6) (fun f => f)).trans bQ_6
  have bC_7 := (hn7.block _ (heap_lt bC_6) (fun f => f)).trans bC_6
  have bE_7 := (hn7.block _ (heap_lt bE_6) (fun f => f)).trans bE_6
  have oS_7 := Lib.hid ((⟨oS_6.out.1.new (by omega) hn7, oS_6.out.2.1.new (by omega) hn7, oS_6.out.2.2.new (by omega) hn7⟩ : _ ∧ _ ∧ _))
  have K7 : New w w7 := K6.trans hn7
  have r7 := r6.keep hn7 (fun _ f => f.elim)
  clear cE0 cE1 cE2 cE3 lE
  clear bR_6 bQ_6 bC_6 bE_6 oS_6 K6 r6 hn7
  obtain ⟨⟨arT, drT, rfl⟩, ⟨aaT, daT, rfl⟩, abT, dbT, rfl⟩ := StartM.lens3 hMT
  have oT_7 := Lib.hid hMT.reads
  clear hMT
  have hn8 : New w7 (w7.alloc (.cells #[.int .i64 pcS, .slice arT yrS.length drT, .slice aaT yaS.length daT, .slice abT ybS.length dbT] 31)) := (Kp.refl _ _).alloc _
  have y8 : w7.heap.size < (w7.alloc (.cells #[.int .i64 pcS, .slice arT yrS.length drT, .slice aaT yaS.length daT, .slice abT ybS.length dbT] 31)).heap.size := lt_alloc _ _
  have bF_8 := alloc_heap w7 (.cells #[.int .i64 pcS, .slice arT yrS.length drT, .slice aaT yaS.length daT, .slice abT ybS.length dbT] 31)
  go_upto_region 7 with fail
  have yy8 : br < w7.heap.size := r7.lt
  generalize hbF : w7.heap.size = bF at bF_8 y8 yy8 ⊢
  generalize (w7.alloc (.cells #[.int .i64 pcS, .slice arT yrS.length drT, .slice aaT yaS.length daT, .slice abT ybS.length dbT] 31)) = w8 at *
  have z8 : w7.heap.size ≤ w8.heap.size := hn8.size
  have bR_8 := (hn8.block _ (heap_lt bR_7) (fun f => f)).trans bR_7
  have bQ_8 := (hn8.block _ (heap_lt bQ_7) (fun f => f)).trans bQ_7
  have bC_8 := (hn8.block _ (heap_lt bC_7) (fun f => f)).trans bC_7
  have bE_8 := (hn8.block _ (heap_lt bE_7) (fun f => f)).trans bE_7
  have oS_8 := Lib.hid ((⟨oS_7.out.1.new (by omega) hn8, oS_7.out.2.1.new (by omega) hn8, oS_7.out.2.2.new (by omega) hn8⟩ : _ ∧ _ ∧ _))
  have oT_8 := Lib.hid ((⟨oT_7.out.1.new (by omega) hn8, oT_7.out.2.1.new (by omega) hn8, oT_7.out.2.2.new (by omega) hn8⟩ : _ ∧ _ ∧ _))
  have K8 : New w w8 := K7.trans hn8
  have r8 := r7.keep hn8 (fun _ f => f.elim)
  clear bR_7 bQ_7 bC_7 bE_7 oS_7 oT_7 K7 r7 hn8
  go_wp2_with fail
  refine (pick w8 br (qS + 1) _ r8 (by omega)).mono ?_
  rintro e w9 ⟨v, rfl, v0, v1, v2, hn9, r9⟩
  have z9 : w8.heap.size ≤ w9.heap.size := hn9.size
  have bR_9 := (hn9.block _ (heap_lt bR_8) (by omega)).trans bR_8
  have bQ_9 := (hn9.block _ (heap_lt bQ_8) (by omega)).trans bQ_8
  have bC_9 := (hn9.block _ (heap_lt bC_8) (by omega)).trans bC_8
  have bE_9 := (hn9.block _ (heap_lt bE_8) (by omega)).trans bE_8
  have bF_9 := (hn9.block _ (heap_lt bF_8) (by omega)).trans bF_8
  have oS_9 := Lib.hid ((⟨oS_8.out.1.kp hn9 (by omega) (fun b e => by omega), oS_8.out.2.1.kp hn9 (by omega) (fun b e => by omega), oS_8.out.2.2.kp hn9 (by omega) (fun b e => by omega)⟩ : _ ∧ _ ∧ _))
  have oT_9 := Lib.hid ((⟨oT_8.out.1.kp hn9 (by omega) (fun b e => by omega), oT_8.out.2.1.kp hn9 (by omega) (fun b e => by omega), oT_8.out.2.2.kp hn9 (by omega) (fun b e => by omega)⟩ : _ ∧ _ ∧ _))
  have K9 : New w w9 := New.one K8 hn9 hwbr1
  clear bR_8 bQ_8 bC_8 bE_8 bF_8 oS_8 oT_8 K8 r8 hn9
  clear v1 v2
  by_cases hv : v = 0
  · subst hv
    have hpc : IntKind.i64.wrap (pcS + 1) = pcS + 1 := IntWalk.i64_in _ (by omega)
    have cF0 := cell_of_heap bF_9 0
    have cF1 := cell_of_heap bF_9 1
    have cF2 := cell_of_heap bF_9 2
    have cF3 := cell_of_heap bF_9 3
    have fF := frozen_of_heap bF_9
    have lF := heap_lt bF_9
    go_upto_region 9 with fail
    have hk10 : Kp (fun k => k = bF) w9 (w9.setCell ⟨bF, 0, none⟩ (.int .i64 (pcS + 1))) := (Kp.setCell (Kp.refl (fun k => k = bF) _) (.inl rfl) _)
    have bF_10 : (w9.setCell ⟨bF, 0, none⟩ (.int .i64 (pcS + 1))).heap[bF]? = some (.cells #[.int .i64 (pcS + 1), .slice arT yrS.length drT, .slice aaT yaS.length daT, .slice abT ybS.length dbT] 31) := (setCell_heap bF_9 _)
    generalize (w9.setCell ⟨bF, 0, none⟩ (.int .i64 (pcS + 1))) = w10 at *
    have z10 : w9.heap.size ≤ w10.heap.size := hk10.size
    have bR_10 := (hk10.block _ (heap_lt bR_9) (by omega)).trans bR_9
    have bQ_10 := (hk10.block _ (heap_lt bQ_9) (by omega)).trans bQ_9
    have bC_10 := (hk10.block _ (heap_lt bC_9) (by omega)).trans bC_9
    have bE_10 := (hk10.block _ (heap_lt bE_9) (by omega)).trans bE_9
    have oS_10 := Lib.hid ((⟨oS_9.out.1.kp hk10 (by omega) (fun b e => by omega), oS_9.out.2.1.kp hk10 (by omega) (fun b e => by omega), oS_9.out.2.2.kp hk10 (by omega) (fun b e => by omega)⟩ : _ ∧ _ ∧ _))
    have oT_10 := Lib.hid ((⟨oT_9.out.1.kp hk10 (by omega) (fun b e => by omega), oT_9.out.2.1.kp hk10 (by omega) (fun b e => by omega), oT_9.out.2.2.kp hk10 (by omega) (fun b e => by omega)⟩ : _ ∧ _ ∧ _))
    have K10 : New w w10 := New.one K9 hk10 (by omega)
    have r10 := r9.keep hk10 (fun i e => by omega)
    clear cF0 cF1 cF2 cF3 fF lF
    clear bR_9 bQ_9 bC_9 bE_9 bF_9 oS_9 oT_9 K9 r9 hk10
    have cE0 := cell_of_heap bE_10 0
    have cE1 := cell_of_heap bE_10 1
    have cE2 := cell_of_heap bE_10 2
    have cE3 := cell_of_heap bE_10 3
    have lE := heap_lt bE_10
    have cF0 := cell_of_heap bF_10 0
    have cF1 := cell_of_heap bF_10 1
    have cF2 := cell_of_heap bF_10 2
    have cF3 := cell_of_heap bF_10 3
    have lF := heap_lt bF_10
    have cR0 := cell_of_heap bR_10 0
    have cR1 := cell_of_heap bR_10 1
    have cR2 := cell_of_heap bR_10 2
    have cR3 := cell_of_heap bR_10 3
    have fR := frozen_of_heap bR_10
    have lR := heap_lt bR_10
    have cQ0 := cell_of_heap bQ_10 0
    have cQ1 := cell_of_heap bQ_10 1
    have cQ2 := cell_of_heap bQ_10 2
    have cQ3 := cell_of_heap bQ_10 3
    have fQ := frozen_of_heap bQ_10
    have lQ := heap_lt bQ_10
    go_wp2_with fail
    refine wp_region_held_drew (S := fun w' => w'.cell? ⟨bE, 0, none⟩ = some (.int .i64 pcS) ∧ w'.cell? ⟨bE, 1, none⟩ = some (.slice arS yrS.length drS) ∧ w'.cell? ⟨bE, 2, none⟩ = some (.slice aaS yaS.length daS) ∧ w'.cell? ⟨bE, 3, none⟩ = some (.slice abS ybS.length dbS) ∧ w'.cell? ⟨bF, 0, none⟩ = some (.int .i64 (pcS + 1)) ∧ w'.cell? ⟨bF, 1, none⟩ = some (.slice arT yrS.length drT) ∧ w'.cell? ⟨bF, 2, none⟩ = some (.slice aaT yaS.length daT) ∧ w'.cell? ⟨bF, 3, none⟩ = some (.slice abT ybS.length dbT)) (by kernel_rfl) ?_ (fun hHeld => ?_)
    · exact ⟨cE0, cE1, cE2, cE3, cF0, cF1, cF2, cF3⟩
    clear cE0 cE1 cE2 cE3 lE cF0 cF1 cF2 cF3 lF cR0 cR1 cR2 cR3 fR lR cQ0 cQ1 cQ2 cQ3 fQ lQ
    have hn11 : New w10 w10.drew := (Kp.refl _ _).drew
    generalize w10.drew = w11 at *
    have z11 : w10.heap.size ≤ w11.heap.size := hn11.size
    have bR_11 := (hn11.block _ (heap_lt bR_10) (fun f => f)).trans bR_10
    have bQ_11 := (hn11.block _ (heap_lt bQ_10) (fun f => f)).trans bQ_10
    have bC_11 := (hn11.block _ (heap_lt bC_10) (fun f => f)).trans bC_10
    have bE_11 := (hn11.block _ (heap_lt bE_10) (fun f => f)).trans bE_10
    have bF_11 := (hn11.block _ (heap_lt bF_10) (fun f => f)).trans bF_10
    have oS_11 := Lib.hid ((⟨oS_10.out.1.new (by omega) hn11, oS_10.out.2.1.new (by omega) hn11, oS_10.out.2.2.new (by omega) hn11⟩ : _ ∧ _ ∧ _))
    have oT_11 := Lib.hid ((⟨oT_10.out.1.new (by omega) hn11, oT_10.out.2.1.new (by omega) hn11, oT_10.out.2.2.new (by omega) hn11⟩ : _ ∧ _ ∧ _))
    have K11 : New w w11 := K10.trans hn11
    have r11 := r10.keep hn11 (fun _ f => f.elim)
    clear bR_10 bQ_10 bC_10 bE_10 bF_10 oS_10 oT_10 K10 r10 hn11
    have cE0 := cell_of_heap bE_11 0
    have cE1 := cell_of_heap bE_11 1
    have cE2 := cell_of_heap bE_11 2
    have cE3 := cell_of_heap bE_11 3
    have lE := heap_lt bE_11
    have cF0 := cell_of_heap bF_11 0
    have cF1 := cell_of_heap bF_11 1
    have cF2 := cell_of_heap bF_11 2
    have cF3 := cell_of_heap bF_11 3
    have lF := heap_lt bF_11
    have cR0 := cell_of_heap bR_11 0
    have cR1 := cell_of_heap bR_11 1
    have cR2 := cell_of_heap bR_11 2
    have cR3 := cell_of_heap bR_11 3
    have fR := frozen_of_heap bR_11
    have lR := heap_lt bR_11
    have cQ0 := cell_of_heap bQ_11 0
    have cQ1 := cell_of_heap bQ_11 1
    have cQ2 := cell_of_heap bQ_11 2
    have cQ3 := cell_of_heap bQ_11 3
    have fQ := frozen_of_heap bQ_11
    have lQ := heap_lt bQ_11
    refine wpAnyH_take (i := 0) (v := ?vcq0) rfl (by kernel_rfl) (by kernel_rfl) (by kernel_rfl) (fun _ _ _ h => h) (Or.inl ⟨by kernel_rfl, ?ycq0⟩) (by assumption) ?rcq0
    case ycq0 =>
      intro w hSw
      try dsimp only at hSw
      go_simp
      try with_reducible rfl
    try simp only [Act.put, List.getElem_toArray, List.getElem_cons_zero, List.setIfInBounds_toArray, List.set_cons_zero, List.set_cons_succ]
    refine wpAnyH_take (i := 1) (v := ?vcq1) rfl (by kernel_rfl) (by kernel_rfl) (by kernel_rfl) (fun _ _ _ h => h) (Or.inl ⟨by kernel_rfl, ?ycq1⟩) (by assumption) ?rcq1
    case ycq1 =>
      intro w hSw
      try dsimp only at hSw
      go_simp
      try with_reducible rfl
    try simp only [Act.put, List.getElem_toArray, List.getElem_cons_zero, List.getElem_cons_succ, List.setIfInBounds_toArray, List.set_cons_zero, List.set_cons_succ]
    refine wpAnyH_ready (rs := [2]) (by kernel_rfl) (by simp) ?_
    refine AllReadyH.cons rfl (fun K hK => ?_) AllReadyH.nil
    go_simp
    have hk12 : Kp (fun k => k = w.heap.size) w11 ((((w11.setCell ⟨w.heap.size, 0, none⟩ (.int .i64 pcS)).setCell ⟨w.heap.size, 1, none⟩ (.slice arS yrS.length drS)).setCell ⟨w.heap.size, 2, none⟩ (.slice aaS yaS.length daS)).setCell ⟨w.heap.size, 3, none⟩ (.slice abS ybS.length dbS)) := (Kp.setCell (Kp.setCell (Kp.setCell (Kp.setCell (Kp.refl (fun k => k = w.heap.size) _) (.inl rfl) _) (.inl rfl) _) (.inl rfl) _) (.inl rfl) _)
    have bR_12 : ((((w11.setCell ⟨w.heap.size, 0, none⟩ (.int .i64 pcS)).setCell ⟨w.heap.size, 1, none⟩ (.slice arS yrS.length drS)).setCell ⟨w.heap.size, 2, none⟩ (.slice aaS yaS.length daS)).setCell ⟨w.heap.size, 3, none⟩ (.slice abS ybS.length dbS)).heap[w.heap.size]? = some (.cells #[.int .i64 pcS, .slice arS yrS.length drS, .slice aaS yaS.length daS, .slice abS ybS.length dbS] 31) := (setCell_heap (setCell_heap (setCell_heap (setCell_heap bR_11 _) _) _) _)
    generalize ((((w11.setCell ⟨w.heap.size, 0, none⟩ (.int .i64 pcS)).setCell ⟨w.heap.size, 1, none⟩ (.slice arS yrS.length drS)).setCell ⟨w.heap.size, 2, none⟩ (.slice aaS yaS.length daS)).setCell ⟨w.heap.size, 3, none⟩ (.slice abS ybS.length dbS)) = w12 at *
    have z12 : w11.heap.size ≤ w12.heap.size := hk12.size
    have bQ_12 := (hk12.block _ (heap_lt bQ_11) (by omega)).trans bQ_11
    have bC_12 := (hk12.block _ (heap_lt bC_11) (by omega)).trans bC_11
    have bE_12 := (hk12.block _ (heap_lt bE_11) (by omega)).trans bE_11
    have bF_12 := (hk12.block _ (heap_lt bF_11) (by omega)).trans bF_11
    have oS_12 := Lib.hid ((⟨oS_11.out.1.kp hk12 (by omega) (fun b e => by omega), oS_11.out.2.1.kp hk12 (by omega) (fun b e => by omega), oS_11.out.2.2.kp hk12 (by omega) (fun b e => by omega)⟩ : _ ∧ _ ∧ _))
    have oT_12 := Lib.hid ((⟨oT_11.out.1.kp hk12 (by omega) (fun b e => by omega), oT_11.out.2.1.kp hk12 (by omega) (fun b e => by omega), oT_11.out.2.2.kp hk12 (by omega) (fun b e => by omega)⟩ : _ ∧ _ ∧ _))
    have K12 : New w w12 := New.one K11 hk12 (by omega)
    clear cE0 cE1 cE2 cE3 lE cF0 cF1 cF2 cF3 lF cR0 cR1 cR2 cR3 fR lR cQ0 cQ1 cQ2 cQ3 fQ lQ
    clear bR_11 bQ_11 bC_11 bE_11 bF_11 oS_11 oT_11 K11 hk12
    have cE0 := cell_of_heap bE_12 0
    have cE1 := cell_of_heap bE_12 1
    have cE2 := cell_of_heap bE_12 2
    have cE3 := cell_of_heap bE_12 3
    have lE := heap_lt bE_12
    have cF0 := cell_of_heap bF_12 0
    have cF1 := cell_of_heap bF_12 1
    have cF2 := cell_of_heap bF_12 2
    have cF3 := cell_of_heap bF_12 3
    have lF := heap_lt bF_12
    have cR0 := cell_of_heap bR_12 0
    have cR1 := cell_of_heap bR_12 1
    have cR2 := cell_of_heap bR_12 2
    have cR3 := cell_of_heap bR_12 3
    have fR := frozen_of_heap bR_12
    have lR := heap_lt bR_12
    have cQ0 := cell_of_heap bQ_12 0
    have cQ1 := cell_of_heap bQ_12 1
    have cQ2 := cell_of_heap bQ_12 2
    have cQ3 := cell_of_heap bQ_12 3
    have fQ := frozen_of_heap bQ_12
    have lQ := heap_lt bQ_12
    refine hK.out _ _ ?_ (fun hHeld2 => ?_)
    · exact ⟨cE0, cE1, cE2, cE3, cF0, cF1, cF2, cF3⟩
    clear hK K hHeld
    have hHeld := hHeld2
    clear hHeld2
    try simp only [Act.put]
    refine wpAnyH_ready (rs := [3]) (by kernel_rfl) (by simp) ?_
    refine AllReadyH.cons rfl (fun K hK => ?_) AllReadyH.nil
    go_simp
    have hk13 : Kp (fun k => k = w.heap.size + 1) w12 ((((w12.setCell ⟨w.heap.size + 1, 0, none⟩ (.int .i64 (pcS + 1))).setCell ⟨w.heap.size + 1, 1, none⟩ (.slice arT yrS.length drT)).setCell ⟨w.heap.size + 1, 2, none⟩ (.slice aaT yaS.length daT)).setCell ⟨w.heap.size + 1, 3, none⟩ (.slice abT ybS.length dbT)) := (Kp.setCell (Kp.setCell (Kp.setCell (Kp.setCell (Kp.refl (fun k => k = w.heap.size + 1) _) (.inl rfl) _) (.inl rfl) _) (.inl rfl) _) (.inl rfl) _)
    have bQ_13 : ((((w12.setCell ⟨w.heap.size + 1, 0, none⟩ (.int .i64 (pcS + 1))).setCell ⟨w.heap.size + 1, 1, none⟩ (.slice arT yrS.length drT)).setCell ⟨w.heap.size + 1, 2, none⟩ (.slice aaT yaS.length daT)).setCell ⟨w.heap.size + 1, 3, none⟩ (.slice abT ybS.length dbT)).heap[w.heap.size + 1]? = some (.cells #[.int .i64 (pcS + 1), .slice arT yrS.length drT, .slice aaT yaS.length daT, .slice abT ybS.length dbT] 31) := (setCell_heap (setCell_heap (setCell_heap (setCell_heap bQ_12 _) _) _) _)
    generalize ((((w12.setCell ⟨w.heap.size + 1, 0, none⟩ (.int .i64 (pcS + 1))).setCell ⟨w.heap.size + 1, 1, none⟩ (.slice arT yrS.length drT)).setCell ⟨w.heap.size + 1, 2, none⟩ (.slice aaT yaS.length daT)).setCell ⟨w.heap.size + 1, 3, none⟩ (.slice abT ybS.length dbT)) = w13 at *
    have z13 : w12.heap.size ≤ w13.heap.size := hk13.size
    have bR_13 := (hk13.block _ (heap_lt bR_12) (by omega)).trans bR_12
    have bC_13 := (hk13.block _ (heap_lt bC_12) (by omega)).trans bC_12
    have bE_13 := (hk13.block _ (heap_lt bE_12) (by omega)).trans bE_12
    have bF_13 := (hk13.block _ (heap_lt bF_12) (by omega)).trans bF_12
    have oS_13 := Lib.hid ((⟨oS_12.out.1.kp hk13 (by omega) (fun b e => by omega), oS_12.out.2.1.kp hk13 (by omega) (fun b e => by omega), oS_12.out.2.2.kp hk13 (by omega) (fun b e => by omega)⟩ : _ ∧ _ ∧ _))
    have oT_13 := Lib.hid ((⟨oT_12.out.1.kp hk13 (by omega) (fun b e => by omega), oT_12.out.2.1.kp hk13 (by omega) (fun b e => by omega), oT_12.out.2.2.kp hk13 (by omega) (fun b e => by omega)⟩ : _ ∧ _ ∧ _))
    have K13 : New w w13 := New.one K12 hk13 (by omega)
    clear cE0 cE1 cE2 cE3 lE cF0 cF1 cF2 cF3 lF cR0 cR1 cR2 cR3 fR lR cQ0 cQ1 cQ2 cQ3 fQ lQ
    clear bR_12 bQ_12 bC_12 bE_12 bF_12 oS_12 oT_12 K12 hk13
    have cE0 := cell_of_heap bE_13 0
    have cE1 := cell_of_heap bE_13 1
    have cE2 := cell_of_heap bE_13 2
    have cE3 := cell_of_heap bE_13 3
    have lE := heap_lt bE_13
    have cF0 := cell_of_heap bF_13 0
    have cF1 := cell_of_heap bF_13 1
    have cF2 := cell_of_heap bF_13 2
    have cF3 := cell_of_heap bF_13 3
    have lF := heap_lt bF_13
    have cR0 := cell_of_heap bR_13 0
    have cR1 := cell_of_heap bR_13 1
    have cR2 := cell_of_heap bR_13 2
    have cR3 := cell_of_heap bR_13 3
    have fR := frozen_of_heap bR_13
    have lR := heap_lt bR_13
    have cQ0 := cell_of_heap bQ_13 0
    have cQ1 := cell_of_heap bQ_13 1
    have cQ2 := cell_of_heap bQ_13 2
    have cQ3 := cell_of_heap bQ_13 3
    have fQ := frozen_of_heap bQ_13
    have lQ := heap_lt bQ_13
    refine hK.out _ _ ?_ (fun hHeld2 => ?_)
    · exact ⟨cE0, cE1, cE2, cE3, cF0, cF1, cF2, cF3⟩
    clear hK K hHeld
    have hHeld := hHeld2
    clear hHeld2
    try simp only [Act.put]
    refine wpAnyH_done (by kernel_rfl) ?_ _
    go_wp2
    exact bodyPost_ret (results_cell2 rfl _ _ _ _ _ _ _ _ _ _ _ _ rfl rfl bR_13 bQ_13 Try.underlying31 Try.underlying31 rfl rfl (by kernel_rfl) (by kernel_rfl)) rfl ⟨_, _, _, _, _, _, _, _, yrS, yaS, yrS, yaS, ybS, ybS, rfl, K13, ⟨oS_13.out.1.mono (lo' := w.heap.size) (hi' := w13.heap.size) (by omega) (by omega), oS_13.out.2.1.mono (lo' := w.heap.size) (hi' := w13.heap.size) (by omega) (by omega), oS_13.out.2.2.mono (lo' := w.heap.size) (hi' := w13.heap.size) (by omega) (by omega)⟩, ⟨oT_13.out.1.mono (lo' := w.heap.size) (hi' := w13.heap.size) (by omega) (by omega), oT_13.out.2.1.mono (lo' := w.heap.size) (hi' := w13.heap.size) (by omega) (by omega), oT_13.out.2.2.mono (lo' := w.heap.size) (hi' := w13.heap.size) (by omega) (by omega)⟩⟩
  · have hvb : (v == 0) = false := by simpa using hv
    have cE0 := cell_of_heap bE_9 0
    have cE1 := cell_of_heap bE_9 1
    have cE2 := cell_of_heap bE_9 2
    have cE3 := cell_of_heap bE_9 3
    have lE := heap_lt bE_9
    have cF0 := cell_of_heap bF_9 0
    have cF1 := cell_of_heap bF_9 1
    have cF2 := cell_of_heap bF_9 2
    have cF3 := cell_of_heap bF_9 3
    have lF := heap_lt bF_9
    have cR0 := cell_of_heap bR_9 0
    have cR1 := cell_of_heap bR_9 1
    have cR2 := cell_of_heap bR_9 2
    have cR3 := cell_of_heap bR_9 3
    have fR := frozen_of_heap bR_9
    have lR := heap_lt bR_9
    have cQ0 := cell_of_heap bQ_9 0
    have cQ1 := cell_of_heap bQ_9 1
    have cQ2 := cell_of_heap bQ_9 2
    have cQ3 := cell_of_heap bQ_9 3
    have fQ := frozen_of_heap bQ_9
    have lQ := heap_lt bQ_9
    go_wp2_with fail
    refine wp_region_held_drew (S := fun w' => w'.cell? ⟨bE, 0, none⟩ = some (.int .i64 pcS) ∧ w'.cell? ⟨bE, 1, none⟩ = some (.slice arS yrS.length drS) ∧ w'.cell? ⟨bE, 2, none⟩ = some (.slice aaS yaS.length daS) ∧ w'.cell? ⟨bE, 3, none⟩ = some (.slice abS ybS.length dbS) ∧ w'.cell? ⟨bF, 0, none⟩ = some (.int .i64 pcS) ∧ w'.cell? ⟨bF, 1, none⟩ = some (.slice arT yrS.length drT) ∧ w'.cell? ⟨bF, 2, none⟩ = some (.slice aaT yaS.length daT) ∧ w'.cell? ⟨bF, 3, none⟩ = some (.slice abT ybS.length dbT)) (by kernel_rfl) ?_ (fun hHeld => ?_)
    · exact ⟨cE0, cE1, cE2, cE3, cF0, cF1, cF2, cF3⟩
    clear cE0 cE1 cE2 cE3 lE cF0 cF1 cF2 cF3 lF cR0 cR1 cR2 cR3 fR lR cQ0 cQ1 cQ2 cQ3 fQ lQ
    have hn10 : New w9 w9.drew := (Kp.refl _ _).drew
    generalize w9.drew = w10 at *
    have z10 : w9.heap.size ≤ w10.heap.size := hn10.size
    have bR_10 := (hn10.block _ (heap_lt bR_9) (fun f => f)).trans bR_9
    have bQ_10 := (hn10.block _ (heap_lt bQ_9) (fun f => f)).trans bQ_9
    have bC_10 := (hn10.block _ (heap_lt bC_9) (fun f => f)).trans bC_9
    have bE_10 := (hn10.block _ (heap_lt bE_9) (fun f => f)).trans bE_9
    have bF_10 := (hn10.block _ (heap_lt bF_9) (fun f => f)).trans bF_9
    have oS_10 := Lib.hid ((⟨oS_9.out.1.new (by omega) hn10, oS_9.out.2.1.new (by omega) hn10, oS_9.out.2.2.new (by omega) hn10⟩ : _ ∧ _ ∧ _))
    have oT_10 := Lib.hid ((⟨oT_9.out.1.new (by omega) hn10, oT_9.out.2.1.new (by omega) hn10, oT_9.out.2.2.new (by omega) hn10⟩ : _ ∧ _ ∧ _))
    have K10 : New w w10 := K9.trans hn10
    have r10 := r9.keep hn10 (fun _ f => f.elim)
    clear bR_9 bQ_9 bC_9 bE_9 bF_9 oS_9 oT_9 K9 r9 hn10
    have cE0 := cell_of_heap bE_10 0
    have cE1 := cell_of_heap bE_10 1
    have cE2 := cell_of_heap bE_10 2
    have cE3 := cell_of_heap bE_10 3
    have lE := heap_lt bE_10
    have cF0 := cell_of_heap bF_10 0
    have cF1 := cell_of_heap bF_10 1
    have cF2 := cell_of_heap bF_10 2
    have cF3 := cell_of_heap bF_10 3
    have lF := heap_lt bF_10
    have cR0 := cell_of_heap bR_10 0
    have cR1 := cell_of_heap bR_10 1
    have cR2 := cell_of_heap bR_10 2
    have cR3 := cell_of_heap bR_10 3
    have fR := frozen_of_heap bR_10
    have lR := heap_lt bR_10
    have cQ0 := cell_of_heap bQ_10 0
    have cQ1 := cell_of_heap bQ_10 1
    have cQ2 := cell_of_heap bQ_10 2
    have cQ3 := cell_of_heap bQ_10 3
    have fQ := frozen_of_heap bQ_10
    have lQ := heap_lt bQ_10
    refine wpAnyH_take (i := 0) (v := ?vdq0) rfl (by kernel_rfl) (by kernel_rfl) (by kernel_rfl) (fun _ _ _ h => h) (Or.inl ⟨by kernel_rfl, ?ydq0⟩) (by assumption) ?rdq0
    case ydq0 =>
      intro w hSw
      try dsimp only at hSw
      go_simp
      try with_reducible rfl
    try simp only [Act.put, List.getElem_toArray, List.getElem_cons_zero, List.setIfInBounds_toArray, List.set_cons_zero, List.set_cons_succ]
    refine wpAnyH_take (i := 1) (v := ?vdq1) rfl (by kernel_rfl) (by kernel_rfl) (by kernel_rfl) (fun _ _ _ h => h) (Or.inl ⟨by kernel_rfl, ?ydq1⟩) (by assumption) ?rdq1
    case ydq1 =>
      intro w hSw
      try dsimp only at hSw
      go_simp
      try with_reducible rfl
    try simp only [Act.put, List.getElem_toArray, List.getElem_cons_zero, List.getElem_cons_succ, List.setIfInBounds_toArray, List.set_cons_zero, List.set_cons_succ]
    refine wpAnyH_ready (rs := [2]) (by kernel_rfl) (by simp) ?_
    refine AllReadyH.cons rfl (fun K hK => ?_) AllReadyH.nil
    go_simp
    have hk11 : Kp (fun k => k = w.heap.size) w10 ((((w10.setCell ⟨w.heap.size, 0, none⟩ (.int .i64 pcS)).setCell ⟨w.heap.size, 1, none⟩ (.slice arS yrS.length drS)).setCell ⟨w.heap.size, 2, none⟩ (.slice aaS yaS.length daS)).setCell ⟨w.heap.size, 3, none⟩ (.slice abS ybS.length dbS)) := (Kp.setCell (Kp.setCell (Kp.setCell (Kp.setCell (Kp.refl (fun k => k = w.heap.size) _) (.inl rfl) _) (.inl rfl) _) (.inl rfl) _) (.inl rfl) _)
    have bR_11 : ((((w10.setCell ⟨w.heap.size, 0, none⟩ (.int .i64 pcS)).setCell ⟨w.heap.size, 1, none⟩ (.slice arS yrS.length drS)).setCell ⟨w.heap.size, 2, none⟩ (.slice aaS yaS.length daS)).setCell ⟨w.heap.size, 3, none⟩ (.slice abS ybS.length dbS)).heap[w.heap.size]? = some (.cells #[.int .i64 pcS, .slice arS yrS.length drS, .slice aaS yaS.length daS, .slice abS ybS.length dbS] 31) := (setCell_heap (setCell_heap (setCell_heap (setCell_heap bR_10 _) _) _) _)
    generalize ((((w10.setCell ⟨w.heap.size, 0, none⟩ (.int .i64 pcS)).setCell ⟨w.heap.size, 1, none⟩ (.slice arS yrS.length drS)).setCell ⟨w.heap.size, 2, none⟩ (.slice aaS yaS.length daS)).setCell ⟨w.heap.size, 3, none⟩ (.slice abS ybS.length dbS)) = w11 at *
    have z11 : w10.heap.size ≤ w11.heap.size := hk11.size
    have bQ_11 := (hk11.block _ (heap_lt bQ_10) (by omega)).trans bQ_10
    have bC_11 := (hk11.block _ (heap_lt bC_10) (by omega)).trans bC_10
    have bE_11 := (hk11.block _ (heap_lt bE_10) (by omega)).trans bE_10
    have bF_11 := (hk11.block _ (heap_lt bF_10) (by omega)).trans bF_10
    have oS_11 := Lib.hid ((⟨oS_10.out.1.kp hk11 (by omega) (fun b e => by omega), oS_10.out.2.1.kp hk11 (by omega) (fun b e => by omega), oS_10.out.2.2.kp hk11 (by omega) (fun b e => by omega)⟩ : _ ∧ _ ∧ _))
    have oT_11 := Lib.hid ((⟨oT_10.out.1.kp hk11 (by omega) (fun b e => by omega), oT_10.out.2.1.kp hk11 (by omega) (fun b e => by omega), oT_10.out.2.2.kp hk11 (by omega) (fun b e => by omega)⟩ : _ ∧ _ ∧ _))
    have K11 : New w w11 := New.one K10 hk11 (by omega)
    clear cE0 cE1 cE2 cE3 lE cF0 cF1 cF2 cF3 lF cR0 cR1 cR2 cR3 fR lR cQ0 cQ1 cQ2 cQ3 fQ lQ
    clear bR_10 bQ_10 bC_10 bE_10 bF_10 oS_10 oT_10 K10 hk11
    have cE0 := cell_of_heap bE_11 0
    have cE1 := cell_of_heap bE_11 1
    have cE2 := cell_of_heap bE_11 2
    have cE3 := cell_of_heap bE_11 3
    have lE := heap_lt bE_11
    have cF0 := cell_of_heap bF_11 0
    have cF1 := cell_of_heap bF_11 1
    have cF2 := cell_of_heap bF_11 2
    have cF3 := cell_of_heap bF_11 3
    have lF := heap_lt bF_11
    have cR0 := cell_of_heap bR_11 0
    have cR1 := cell_of_heap bR_11 1
    have cR2 := cell_of_heap bR_11 2
    have cR3 := cell_of_heap bR_11 3
    have fR := frozen_of_heap bR_11
    have lR := heap_lt bR_11
    have cQ0 := cell_of_heap bQ_11 0
    have cQ1 := cell_of_heap bQ_11 1
    have cQ2 := cell_of_heap bQ_11 2
    have cQ3 := cell_of_heap bQ_11 3
    have fQ := frozen_of_heap bQ_11
    have lQ := heap_lt bQ_11
    refine hK.out _ _ ?_ (fun hHeld2 => ?_)
    · exact ⟨cE0, cE1, cE2, cE3, cF0, cF1, cF2, cF3⟩
    clear hK K hHeld
    have hHeld := hHeld2
    clear hHeld2
    try simp only [Act.put]
    refine wpAnyH_ready (rs := [3]) (by kernel_rfl) (by simp) ?_
    refine AllReadyH.cons rfl (fun K hK => ?_) AllReadyH.nil
    go_simp
    have hk12 : Kp (fun k => k = w.heap.size + 1) w11 ((((w11.setCell ⟨w.heap.size + 1, 0, none⟩ (.int .i64 pcS)).setCell ⟨w.heap.size + 1, 1, none⟩ (.slice arT yrS.length drT)).setCell ⟨w.heap.size + 1, 2, none⟩ (.slice aaT yaS.length daT)).setCell ⟨w.heap.size + 1, 3, none⟩ (.slice abT ybS.length dbT)) := (Kp.setCell (Kp.setCell (Kp.setCell (Kp.setCell (Kp.refl (fun k => k = w.heap.size + 1) _) (.inl rfl) _) (.inl rfl) _) (.inl rfl) _) (.inl rfl) _)
    have bQ_12 : ((((w11.setCell ⟨w.heap.size + 1, 0, none⟩ (.int .i64 pcS)).setCell ⟨w.heap.size + 1, 1, none⟩ (.slice arT yrS.length drT)).setCell ⟨w.heap.size + 1, 2, none⟩ (.slice aaT yaS.length daT)).setCell ⟨w.heap.size + 1, 3, none⟩ (.slice abT ybS.length dbT)).heap[w.heap.size + 1]? = some (.cells #[.int .i64 pcS, .slice arT yrS.length drT, .slice aaT yaS.length daT, .slice abT ybS.length dbT] 31) := (setCell_heap (setCell_heap (setCell_heap (setCell_heap bQ_11 _) _) _) _)
    generalize ((((w11.setCell ⟨w.heap.size + 1, 0, none⟩ (.int .i64 pcS)).setCell ⟨w.heap.size + 1, 1, none⟩ (.slice arT yrS.length drT)).setCell ⟨w.heap.size + 1, 2, none⟩ (.slice aaT yaS.length daT)).setCell ⟨w.heap.size + 1, 3, none⟩ (.slice abT ybS.length dbT)) = w12 at *
    have z12 : w11.heap.size ≤ w12.heap.size := hk12.size
    have bR_12 := (hk12.block _ (heap_lt bR_11) (by omega)).trans bR_11
    have bC_12 := (hk12.block _ (heap_lt bC_11) (by omega)).trans bC_11
    have bE_12 := (hk12.block _ (heap_lt bE_11) (by omega)).trans bE_11
    have bF_12 := (hk12.block _ (heap_lt bF_11) (by omega)).trans bF_11
    have oS_12 := Lib.hid ((⟨oS_11.out.1.kp hk12 (by omega) (fun b e => by omega), oS_11.out.2.1.kp hk12 (by omega) (fun b e => by omega), oS_11.out.2.2.kp hk12 (by omega) (fun b e => by omega)⟩ : _ ∧ _ ∧ _))
    have oT_12 := Lib.hid ((⟨oT_11.out.1.kp hk12 (by omega) (fun b e => by omega), oT_11.out.2.1.kp hk12 (by omega) (fun b e => by omega), oT_11.out.2.2.kp hk12 (by omega) (fun b e => by omega)⟩ : _ ∧ _ ∧ _))
    have K12 : New w w12 := New.one K11 hk12 (by omega)
    clear cE0 cE1 cE2 cE3 lE cF0 cF1 cF2 cF3 lF cR0 cR1 cR2 cR3 fR lR cQ0 cQ1 cQ2 cQ3 fQ lQ
    clear bR_11 bQ_11 bC_11 bE_11 bF_11 oS_11 oT_11 K11 hk12
    have cE0 := cell_of_heap bE_12 0
    have cE1 := cell_of_heap bE_12 1
    have cE2 := cell_of_heap bE_12 2
    have cE3 := cell_of_heap bE_12 3
    have lE := heap_lt bE_12
    have cF0 := cell_of_heap bF_12 0
    have cF1 := cell_of_heap bF_12 1
    have cF2 := cell_of_heap bF_12 2
    have cF3 := cell_of_heap bF_12 3
    have lF := heap_lt bF_12
    have cR0 := cell_of_heap bR_12 0
    have cR1 := cell_of_heap bR_12 1
    have cR2 := cell_of_heap bR_12 2
    have cR3 := cell_of_heap bR_12 3
    have fR := frozen_of_heap bR_12
    have lR := heap_lt bR_12
    have cQ0 := cell_of_heap bQ_12 0
    have cQ1 := cell_of_heap bQ_12 1
    have cQ2 := cell_of_heap bQ_12 2
    have cQ3 := cell_of_heap bQ_12 3
    have fQ := frozen_of_heap bQ_12
    have lQ := heap_lt bQ_12
    refine hK.out _ _ ?_ (fun hHeld2 => ?_)
    · exact ⟨cE0, cE1, cE2, cE3, cF0, cF1, cF2, cF3⟩
    clear hK K hHeld
    have hHeld := hHeld2
    clear hHeld2
    try simp only [Act.put]
    refine wpAnyH_done (by kernel_rfl) ?_ _
    go_wp2
    exact bodyPost_ret (results_cell2 rfl _ _ _ _ _ _ _ _ _ _ _ _ rfl rfl bR_12 bQ_12 Try.underlying31 Try.underlying31 rfl rfl (by kernel_rfl) (by kernel_rfl)) rfl ⟨_, _, _, _, _, _, _, _, yrS, yaS, yrS, yaS, ybS, ybS, rfl, K12, ⟨oS_12.out.1.mono (lo' := w.heap.size) (hi' := w12.heap.size) (by omega) (by omega), oS_12.out.2.1.mono (lo' := w.heap.size) (hi' := w12.heap.size) (by omega) (by omega), oS_12.out.2.2.mono (lo' := w.heap.size) (hi' := w12.heap.size) (by omega) (by omega)⟩, ⟨oT_12.out.1.mono (lo' := w.heap.size) (hi' := w12.heap.size) (by omega) (by omega), oT_12.out.2.1.mono (lo' := w.heap.size) (hi' := w12.heap.size) (by omega) (by omega), oT_12.out.2.2.mono (lo' := w.heap.size) (hi' := w12.heap.size) (by omega) (by omega)⟩⟩
end Go.Proofs.Ytljokgoghphgdaa.DrawE
