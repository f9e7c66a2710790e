/- The draw of a program, a memory and an expression: DrawEvalExpr. No conditions. -/
import Derived.Test.YtbicpkmlionldaaEMut
import Derived.Test.YtbicpkmlionldaaEDrawG
import Derived.Test.YtbicpkmlionldaaEDrawM
import Derived.Test.YtbicpkmlionldaaEP1
namespace Go.Proofs.Ytbicpkmlionldaa.DrawQ
open Go.RowKit Kit Draw DrawX MarkC
set_option linter.unusedVariables false
theorem results_cell3 {P : Program} {fn : Func} {p q r : Tmp} {ty ty2 ty3 : TypeId} (h : fn.results = #[.cell p ty, .cell q ty2, .cell r ty3]) (tmps : Array Value) (w : World) (g g2 g3 : Nat) (t t2 t3 : TypeId) (cs cs2 cs3 : Array Value) (fr fr2 fr3 : Nat × Nat) (d d2 d3 : TypeDesc)
    (hp : tmps.getD p undef = .pointer (some ⟨g, 0, none⟩)) (hq : tmps.getD q undef = .pointer (some ⟨g2, 0, none⟩)) (hr : tmps.getD r undef = .pointer (some ⟨g3, 0, none⟩)) (hg : w.heap[g]? = some (.cells cs t fr)) (hg2 : w.heap[g2]? = some (.cells cs2 t2 fr2)) (hg3 : w.heap[g3]? = some (.cells cs3 t3 fr3))
    (hu : P.underlying ty = some d) (hu2 : P.underlying ty2 = some d2) (hu3 : P.underlying ty3 = some d3) (hd : (match d with | .struct _ | .array _ _ => true | _ => false) = true) (hd2 : (match d2 with | .struct _ | .array _ _ => true | _ => false) = true) (hd3 : (match d3 with | .struct _ | .array _ _ => true | _ => false) = true)
    (hi : (P.info? ty).map (·.size) = some cs.size) (hi2 : (P.info? ty2).map (·.size) = some cs2.size) (hi3 : (P.info? ty3).map (·.size) = some cs3.size) :
    (results fn tmps).run P w = .ok (.tuple #[.agg cs, .agg cs2, .agg cs3]) w := by
  have hp' : tmps[p]?.getD undef = .pointer (some ⟨g, 0, none⟩) := by simpa using hp
  have hq' : tmps[q]?.getD undef = .pointer (some ⟨g2, 0, none⟩) := by simpa using hq
  have hr' : tmps[r]?.getD undef = .pointer (some ⟨g3, 0, none⟩) := by simpa using hr
  simp [results, h, hp', hq', hr', asAddr, run_loadVar_row w g t ty cs fr d hg hu hd hi, run_loadVar_row w g2 t2 ty2 cs2 fr2 d2 hg2 hu2 hd2 hi2, run_loadVar_row w g3 t3 ty3 cs3 fr3 d3 hg3 hu3 hd3 hi3]
/-- a program, a memory and an expression -/
def GotPME (w : World) (e : Ending) (w' : World) : Prop := ∃ (va vb vc : Value) (ya yb : List Int) (m : List St) (ma mb : Value) (za : List Int) (zb : List (List Int)) (k v : Int) (s : Value) (ks : List Ex), e = .returned (.tuple #[.agg #[va, vb, vc], .agg #[ma, mb], .agg #[.int .i64 k, .int .i64 v, s]]) ∧ New w w' ∧ IntsR w' w.heap.size w'.heap.size va ya ∧ IntsR w' w.heap.size w'.heap.size vb yb ∧ StsR w' w.heap.size w'.heap.size vc m ∧ MemO w' w.heap.size w'.heap.size ma mb za zb ∧ KidsR w' w.heap.size w'.heap.size s ks ∧ St.sizes m ≤ 608400 ∧ za.length ≤ 100 ∧ zb.length ≤ 100 ∧ (∀ y ∈ zb, y.length ≤ 4) ∧ Ex.sizes ks ≤ 1000
set_option maxHeartbeats 16000000 in
set_option maxRecDepth 100000 in
theorem drawEval (w : World) (a : Option Addr) (len cap : Nat) (h : Src w a len cap) : Calls Try.prog 14 #[.slice a len cap] w (GotPME w) := by
  go_enter Try.func14, Try.ntmps14
  go_upto_region 1 with fail
  have N0 : New w (((w.alloc (.cells #[.slice none 0 0, .slice none 0 0, .slice none 0 0] 49)).alloc (.cells #[.slice none 0 0, .slice none 0 0] 29)).alloc (.cells #[.int .i64 0, .int .i64 0, .slice none 0 0] 52)) := (((Kp.refl _ _).alloc _).alloc _).alloc _
  have bR_0 : (((w.alloc (.cells #[.slice none 0 0, .slice none 0 0, .slice none 0 0] 49)).alloc (.cells #[.slice none 0 0, .slice none 0 0] 29)).alloc (.cells #[.int .i64 0, .int .i64 0, .slice none 0 0] 52)).heap[w.heap.size]? = some (.cells #[.slice none 0 0, .slice none 0 0, .slice none 0 0] 49) := heap_old (heap_old (alloc_heap _ _))
  have bQ_0 : (((w.alloc (.cells #[.slice none 0 0, .slice none 0 0, .slice none 0 0] 49)).alloc (.cells #[.slice none 0 0, .slice none 0 0] 29)).alloc (.cells #[.int .i64 0, .int .i64 0, .slice none 0 0] 52)).heap[w.heap.size + 1]? = some (.cells #[.slice none 0 0, .slice none 0 0] 29) := heap_old (heap_at (by simp))
  have bX_0 : (((w.alloc (.cells #[.slice none 0 0, .slice none 0 0, .slice none 0 0] 49)).alloc (.cells #[.slice none 0 0, .slice none 0 0] 29)).alloc (.cells #[.int .i64 0, .int .i64 0, .slice none 0 0] 52)).heap[w.heap.size + 1 + 1]? = some (.cells #[.int .i64 0, .int .i64 0, .slice none 0 0] 52) := heap_at (by simp)
  have z0 : w.heap.size + 1 + 1 < (((w.alloc (.cells #[.slice none 0 0, .slice none 0 0, .slice none 0 0] 49)).alloc (.cells #[.slice none 0 0, .slice none 0 0] 29)).alloc (.cells #[.int .i64 0, .int .i64 0, .slice none 0 0] 52)).heap.size := by simp
  generalize (((w.alloc (.cells #[.slice none 0 0, .slice none 0 0, .slice none 0 0] 49)).alloc (.cells #[.slice none 0 0, .slice none 0 0] 29)).alloc (.cells #[.int .i64 0, .int .i64 0, .slice none 0 0] 52)) = w0 at *
  have s0 := h.keep N0
  go_wp2_with fail
  refine (Draw.l17Open w0 _ _ _ s0.1 s0.2.1 s0.2.2).mono ?_
  rintro e w1 ⟨rfl, hn1, r1⟩
  have z1 := hn1.size
  have bR_1 := heap_new hn1 bR_0
  have bQ_1 := heap_new hn1 bQ_0
  have bX_1 := heap_new hn1 bX_0
  have K1 := N0.trans hn1
  have hwbr0 : w.heap.size + 3 ≤ w0.heap.size := by omega
  generalize hbr : w0.heap.size = br at *
  have hwbr : w.heap.size ≤ br := by omega
  clear hbr N0 hn1 bR_0 bQ_0 bX_0 z0 s0 h
  go_wp2_with fail
  refine (DrawG.l2Program w1 br 0 r1 (by omega)).mono ?_
  rintro e w2 ⟨a1, a2, a3, d1, d2, d3, xa, xb, l, q, rfl, hn2, r2, hq, hA, hB, hC, hxa, hxb, hx, -, -⟩
  have hbl : br < w1.heap.size := r1.lt
  have hll := St.length_sizes l
  have z2 := hn2.size
  have bR_2 := hn2.bo bR_1
  have bQ_2 := hn2.bo bQ_1
  have bX_2 := hn2.bo bX_1
  have K2 : New w w2 := New.one K1 hn2 hwbr
  clear bR_1 bQ_1 bX_1 K1 r1 hn2
  have oC_2 := Lib.hid (show _ ∧ _ ∧ _ from ⟨hA, hB, hC⟩)
  clear hA hB hC
  obtain ⟨hn3, y3, bP_3⟩ := newb w2 (.cells #[.slice a1 xa.length d1, .slice a2 xb.length d2, .slice a3 l.length d3] 49)
  go_upto_region 3 with fail
  have yy3 : br < w2.heap.size := r2.lt
  generalize hbP : w2.heap.size = bP at bP_3 y3 yy3 ⊢
  generalize (w2.alloc (.cells #[.slice a1 xa.length d1, .slice a2 xb.length d2, .slice a3 l.length d3] 49)) = w3 at *
  have z3 := hn3.size
  have bR_3 := hn3.bk bR_2
  have bQ_3 := hn3.bk bQ_2
  have bX_3 := hn3.bk bX_2
  have oC_3 := Lib.hid ((⟨oC_2.out.1.new (by omega) hn3, oC_2.out.2.1.new (by omega) hn3, oC_2.out.2.2.new (by omega) hn3⟩ : _ ∧ _ ∧ _))
  have K3 := K2.trans hn3
  have r3 := r2.nw hn3
  clear bR_2 bQ_2 bX_2 oC_2 K2 r2 hn3
  obtain ⟨cP0, cP1, cP2⟩ := cells3 bP_3
  have lP := heap_lt bP_3
  go_wp2_with fail
  clear cP0 cP1 cP2 lP
  refine (DrawM.l3Memory w3 br (q) a1 a2 a3 xa.length d1 xb.length d2 l.length d3 r3 (by omega) (by omega) (by omega)).mono ?_
  rintro e w4 ⟨u1, u2, za, zb, q3, rfl, hn4, r4, hq3, hM1, hz1, hz2, hz3⟩
  have z4 := hn4.size
  have bR_4 := hn4.bo bR_3
  have bQ_4 := hn4.bo bQ_3
  have bX_4 := hn4.bo bX_3
  have bP_4 := hn4.bo bP_3
  have oC_4 := Lib.hid ((⟨oC_3.out.1.kp hn4 (by omega) (fun b e => by omega), oC_3.out.2.1.kp hn4 (by omega) (fun b e => by omega), oC_3.out.2.2.kp hn4 (by omega) (fun b e => by omega)⟩ : _ ∧ _ ∧ _))
  have K4 : New w w4 := New.one K3 hn4 hwbr
  clear bR_3 bQ_3 bX_3 bP_3 oC_3 K3 r3 hn4
  obtain ⟨⟨a6, d6, rfl⟩, a7, d7, rfl⟩ := hM1.lens
  have hM1h := Lib.hid hM1
  have hz1h := Lib.hid hz1
  have hz2h := Lib.hid hz2
  have hz3h := Lib.hid hz3
  clear hM1 hz1 hz2 hz3
  go_wp2_with fail
  have hMr := hM1h.out.reads
  refine (DrawM.l3Bend w4 br q3 xa.length xb.length w3.heap.size w4.heap.size _ _ za zb r4 hMr.1 hMr.2 (Nat.le_refl _) hz1h.out hz2h.out (by omega) (by omega) hz3h.out (by omega)).mono ?_
  rintro e w5 ⟨u3, u4, sa, sb, qS, rfl, hn5, r5, hqS, hM, hm2, hm3, hm4⟩
  clear hMr hM1h
  have z5 := hn5.size
  have bR_5 := hn5.bo bR_4
  have bQ_5 := hn5.bo bQ_4
  have bX_5 := hn5.bo bX_4
  have bP_5 := hn5.bo bP_4
  have oC_5 := Lib.hid ((⟨oC_4.out.1.kp hn5 (by omega) (fun b e => by omega), oC_4.out.2.1.kp hn5 (by omega) (fun b e => by omega), oC_4.out.2.2.kp hn5 (by omega) (fun b e => by omega)⟩ : _ ∧ _ ∧ _))
  have K5 : New w w5 := New.one K4 hn5 hwbr
  clear bR_4 bQ_4 bX_4 bP_4 oC_4 K4 r4 hn5
  obtain ⟨⟨aa, da, rfl⟩, ab, db, rfl⟩ := hM.lens
  have oS_5 := Lib.hid hM
  have hlS := Lib.hid hm4
  clear hM hm4
  obtain ⟨hn6, y6, bM_6⟩ := newb w5 (.cells #[.slice aa sa.length da, .slice ab sb.length db] 29)
  go_upto_region 4 with fail
  have yy6 : br < w5.heap.size := r5.lt
  generalize hbM : w5.heap.size = bM at bM_6 y6 yy6 ⊢
  generalize (w5.alloc (.cells #[.slice aa sa.length da, .slice ab sb.length db] 29)) = w6 at *
  have z6 := hn6.size
  have bR_6 := hn6.bk bR_5
  have bQ_6 := hn6.bk bQ_5
  have bX_6 := hn6.bk bX_5
  have bP_6 := hn6.bk bP_5
  have oC_6 := Lib.hid ((⟨oC_5.out.1.new (by omega) hn6, oC_5.out.2.1.new (by omega) hn6, oC_5.out.2.2.new (by omega) hn6⟩ : _ ∧ _ ∧ _))
  have oS_6 := Lib.hid (oS_5.out.new (by omega) hn6)
  have K6 := K5.trans hn6
  have r6 := r5.nw hn6
  clear bR_5 bQ_5 bX_5 bP_5 oC_5 oS_5 K5 r5 hn6
  obtain ⟨cP0, cP1, cP2⟩ := cells3 bP_6
  have lP := heap_lt bP_6
  go_wp2_with fail
  clear cP0 cP1 cP2 lP
  refine (DrawX.l2Small a1 a2 a3 xa.length d1 xb.length d2 l.length d3 (by omega) (by omega) w6 br (qS) r6 (by omega)).mono ?_
  rintro e w7 ⟨kU, vU, aU, tU, lU, qU, rfl, hn7, r7, hqU, hkU, hsU, bU1, bU2, bU3, bU4⟩
  have z7 := hn7.size
  have bR_7 := hn7.bo bR_6
  have bQ_7 := hn7.bo bQ_6
  have bX_7 := hn7.bo bX_6
  have bP_7 := hn7.bo bP_6
  have bM_7 := hn7.bo bM_6
  have oC_7 := Lib.hid ((⟨oC_6.out.1.kp hn7 (by omega) (fun b e => by omega), oC_6.out.2.1.kp hn7 (by omega) (fun b e => by omega), oC_6.out.2.2.kp hn7 (by omega) (fun b e => by omega)⟩ : _ ∧ _ ∧ _))
  have oS_7 := Lib.hid (oS_6.out.kp hn7 (fun b e => by omega))
  have K7 : New w w7 := New.one K6 hn7 hwbr
  clear bR_6 bQ_6 bX_6 bP_6 bM_6 oC_6 oS_6 K6 r6 hn7
  have oU_7 := Lib.hid hkU
  clear hkU
  obtain ⟨hn8, y8, bE_8⟩ := newb w7 (.cells #[.int .i64 kU, .int .i64 vU, .slice aU lU.length tU] 52)
  go_upto_region 5 with fail
  have yy8 : br < w7.heap.size := r7.lt
  generalize hbE : w7.heap.size = bE at bE_8 y8 yy8 ⊢
  generalize (w7.alloc (.cells #[.int .i64 kU, .int .i64 vU, .slice aU lU.length tU] 52)) = w8 at *
  have z8 := hn8.size
  have bR_8 := hn8.bk bR_7
  have bQ_8 := hn8.bk bQ_7
  have bX_8 := hn8.bk bX_7
  have bP_8 := hn8.bk bP_7
  have bM_8 := hn8.bk bM_7
  have oC_8 := Lib.hid ((⟨oC_7.out.1.new (by omega) hn8, oC_7.out.2.1.new (by omega) hn8, oC_7.out.2.2.new (by omega) hn8⟩ : _ ∧ _ ∧ _))
  have oS_8 := Lib.hid (oS_7.out.new (by omega) hn8)
  have oU_8 := Lib.hid (oU_7.out.new (by omega) hn8)
  have K8 := K7.trans hn8
  have r8 := r7.nw hn8
  clear bR_7 bQ_7 bX_7 bP_7 bM_7 oC_7 oS_7 oU_7 K7 r7 hn8
  go_wp2_with fail
  refine (pick w8 br (qU) _ r8 (by omega)).mono ?_
  rintro e w9 ⟨u, rfl, u0, u1, u2, hn9, r9⟩
  have z9 := hn9.size
  have bR_9 := hn9.bo bR_8
  have bQ_9 := hn9.bo bQ_8
  have bX_9 := hn9.bo bX_8
  have bP_9 := hn9.bo bP_8
  have bM_9 := hn9.bo bM_8
  have bE_9 := hn9.bo bE_8
  have oC_9 := Lib.hid ((⟨oC_8.out.1.kp hn9 (by omega) (fun b e => by omega), oC_8.out.2.1.kp hn9 (by omega) (fun b e => by omega), oC_8.out.2.2.kp hn9 (by omega) (fun b e => by omega)⟩ : _ ∧ _ ∧ _))
  have oS_9 := Lib.hid (oS_8.out.kp hn9 (fun b e => by omega))
  have oU_9 := Lib.hid (oU_8.out.kp hn9 (by omega) (fun b e => by omega))
  have K9 : New w w9 := New.one K8 hn9 hwbr
  clear bR_8 bQ_8 bX_8 bP_8 bM_8 bE_8 oC_8 oS_8 oU_8 K8 r8 hn9
  clear u1 u2
  by_cases hu : u = 0
  · subst hu
    obtain ⟨cE0, cE1, cE2⟩ := cells3 bE_9
    have fE := frozen_of_heap bE_9
    have lE := heap_lt bE_9
    go_wp2_with fail
    have hNr := r9.lt
    refine (num _ br (qU + 1) _ 3 _ (fun x => -1 ≤ x ∧ x ≤ 256) (r9.keep (S := fun _ => False) ((Kp.refl _ _).alloc _) (fun _ f => f.elim)) (by omega) (by omega) (by omega) (by omega) ?_).mono ?_
    · intro i hi
      match i, hi with
      | 0, _ => exact ⟨_, by decide, World.cell?_alloc_new _ _ _ _⟩
      | 1, _ => exact ⟨_, by decide, World.cell?_alloc_new _ _ _ _⟩
      | 2, _ => exact ⟨_, by decide, World.cell?_alloc_new _ _ _ _⟩
    rintro e w10 ⟨y, rfl, ⟨y0, y1⟩, k1, r10⟩
    have hn10 : One br w9 w10 := ((Kp.refl (fun k => k = br) w9).alloc _).trans k1
    clear k1 hNr
    have z10 := hn10.size
    have bR_10 := hn10.bo bR_9
    have bQ_10 := hn10.bo bQ_9
    have bX_10 := hn10.bo bX_9
    have bP_10 := hn10.bo bP_9
    have bM_10 := hn10.bo bM_9
    have bE_10 := hn10.bo bE_9
    have oC_10 := Lib.hid ((⟨oC_9.out.1.kp hn10 (by omega) (fun b e => by omega), oC_9.out.2.1.kp hn10 (by omega) (fun b e => by omega), oC_9.out.2.2.kp hn10 (by omega) (fun b e => by omega)⟩ : _ ∧ _ ∧ _))
    have oS_10 := Lib.hid (oS_9.out.kp hn10 (fun b e => by omega))
    have oU_10 := Lib.hid (oU_9.out.kp hn10 (by omega) (fun b e => by omega))
    have K10 : New w w10 := New.one K9 hn10 hwbr
    clear cE0 cE1 cE2 fE lE
    clear bR_9 bQ_9 bX_9 bP_9 bM_9 bE_9 oC_9 oS_9 oU_9 K9 r9 hn10
    clear y0 y1
    obtain ⟨cE0, cE1, cE2⟩ := cells3 bE_10
    have fE := frozen_of_heap bE_10
    have lE := heap_lt bE_10
    go_upto_region 7 with fail
    have hk11 : Kp (fun k => k = bE) w10 (w10.setCell ⟨bE, 1, none⟩ (.int .i64 y)) := (Kp.setCell (Kp.refl (fun k => k = bE) _) (.inl rfl) _)
    have bE_11 : (w10.setCell ⟨bE, 1, none⟩ (.int .i64 y)).heap[bE]? = some (.cells #[.int .i64 kU, .int .i64 y, .slice aU lU.length tU] 52) := (setCell_heap bE_10 _)
    generalize (w10.setCell ⟨bE, 1, none⟩ (.int .i64 y)) = w11 at *
    have z11 := hk11.size
    have bR_11 := hk11.bo bR_10
    have bQ_11 := hk11.bo bQ_10
    have bX_11 := hk11.bo bX_10
    have bP_11 := hk11.bo bP_10
    have bM_11 := hk11.bo bM_10
    have oC_11 := Lib.hid ((⟨oC_10.out.1.kp hk11 (by omega) (fun b e => by omega), oC_10.out.2.1.kp hk11 (by omega) (fun b e => by omega), oC_10.out.2.2.kp hk11 (by omega) (fun b e => by omega)⟩ : _ ∧ _ ∧ _))
    have oS_11 := Lib.hid (oS_10.out.kp hk11 (fun b e => by omega))
    have oU_11 := Lib.hid (oU_10.out.kp hk11 (by omega) (fun b e => by omega))
    have K11 : New w w11 := New.one K10 hk11 (by omega)
    have r11 := r10.kp hk11
    clear cE0 cE1 cE2 fE lE
    clear bR_10 bQ_10 bX_10 bP_10 bM_10 bE_10 oC_10 oS_10 oU_10 K10 r10 hk11
    obtain ⟨cP0, cP1, cP2⟩ := cells3 bP_11
    have lP := heap_lt bP_11
    obtain ⟨cM0, cM1⟩ := cells2 bM_11
    have lM := heap_lt bM_11
    obtain ⟨cE0, cE1, cE2⟩ := cells3 bE_11
    have lE := heap_lt bE_11
    obtain ⟨cR0, cR1, cR2⟩ := cells3 bR_11
    have fR := frozen_of_heap bR_11
    have lR := heap_lt bR_11
    obtain ⟨cQ0, cQ1⟩ := cells2 bQ_11
    have fQ := frozen_of_heap bQ_11
    have lQ := heap_lt bQ_11
    obtain ⟨cX0, cX1, cX2⟩ := cells3 bX_11
    have fX := frozen_of_heap bX_11
    have lX := heap_lt bX_11
    go_wp2_with fail
    refine wp_region_held_drew (S := fun w' => w'.cell? ⟨bP, 0, none⟩ = some (.slice a1 xa.length d1) ∧ w'.cell? ⟨bP, 1, none⟩ = some (.slice a2 xb.length d2) ∧ w'.cell? ⟨bP, 2, none⟩ = some (.slice a3 l.length d3) ∧ w'.cell? ⟨bM, 0, none⟩ = some (.slice aa sa.length da) ∧ w'.cell? ⟨bM, 1, none⟩ = some (.slice ab sb.length db) ∧ w'.cell? ⟨bE, 0, none⟩ = some (.int .i64 kU) ∧ w'.cell? ⟨bE, 1, none⟩ = some (.int .i64 y) ∧ w'.cell? ⟨bE, 2, none⟩ = some (.slice aU lU.length tU)) (by kernel_rfl) ?_ (fun hHeld => ?_)
    · exact ⟨cP0, cP1, cP2, cM0, cM1, cE0, cE1, cE2⟩
    clear cP0 cP1 cP2 lP cM0 cM1 lM cE0 cE1 cE2 lE cR0 cR1 cR2 fR lR cQ0 cQ1 fQ lQ cX0 cX1 cX2 fX lX
    have hn12 : New w11 w11.drew := (Kp.refl _ _).drew
    generalize w11.drew = w12 at *
    have z12 := hn12.size
    have bR_12 := hn12.bk bR_11
    have bQ_12 := hn12.bk bQ_11
    have bX_12 := hn12.bk bX_11
    have bP_12 := hn12.bk bP_11
    have bM_12 := hn12.bk bM_11
    have bE_12 := hn12.bk bE_11
    have oC_12 := Lib.hid ((⟨oC_11.out.1.new (by omega) hn12, oC_11.out.2.1.new (by omega) hn12, oC_11.out.2.2.new (by omega) hn12⟩ : _ ∧ _ ∧ _))
    have oS_12 := Lib.hid (oS_11.out.new (by omega) hn12)
    have oU_12 := Lib.hid (oU_11.out.new (by omega) hn12)
    have K12 := K11.trans hn12
    have r12 := r11.nw hn12
    clear bR_11 bQ_11 bX_11 bP_11 bM_11 bE_11 oC_11 oS_11 oU_11 K11 r11 hn12
    obtain ⟨cP0, cP1, cP2⟩ := cells3 bP_12
    have lP := heap_lt bP_12
    obtain ⟨cM0, cM1⟩ := cells2 bM_12
    have lM := heap_lt bM_12
    obtain ⟨cE0, cE1, cE2⟩ := cells3 bE_12
    have lE := heap_lt bE_12
    obtain ⟨cR0, cR1, cR2⟩ := cells3 bR_12
    have fR := frozen_of_heap bR_12
    have lR := heap_lt bR_12
    obtain ⟨cQ0, cQ1⟩ := cells2 bQ_12
    have fQ := frozen_of_heap bQ_12
    have lQ := heap_lt bQ_12
    obtain ⟨cX0, cX1, cX2⟩ := cells3 bX_12
    have fX := frozen_of_heap bX_12
    have lX := heap_lt bX_12
    refine HT 0 rfl ?_
    try simp only [AP]
    refine HT 1 rfl ?_
    try simp only [AP]
    refine HT 3 rfl ?_
    try simp only [AP]
    refine HT 4 rfl ?_
    try simp only [AP]
    refine HR 2 rfl fun K hK => ?_
    go_simp
    refine (Mut.l2Mutate w12 br (qU + 1 + 1) w.heap.size w12.heap.size a1 a2 a3 d1 d2 d3 xa xb l r12 (oC_12.out.1.mono (by omega) (by omega)) (oC_12.out.2.1.mono (by omega) (by omega)) (oC_12.out.2.2.mono (by omega) (by omega)) (Nat.le_refl _) (by omega) (by omega) (by omega) (by omega) (by omega)).mono ?_
    rintro e w13 ⟨va, vb, vc, ya, yb, m, qU, rfl, hn13, r13, hqU, hA, hB, hC, hl1, hl2, hl3⟩
    have z13 := hn13.size
    have bR_13 := hn13.bo bR_12
    have bQ_13 := hn13.bo bQ_12
    have bX_13 := hn13.bo bX_12
    have bP_13 := hn13.bo bP_12
    have bM_13 := hn13.bo bM_12
    have bE_13 := hn13.bo bE_12
    have oC_13 := Lib.hid ((⟨oC_12.out.1.kp hn13 (by omega) (fun b e => by omega), oC_12.out.2.1.kp hn13 (by omega) (fun b e => by omega), oC_12.out.2.2.kp hn13 (by omega) (fun b e => by omega)⟩ : _ ∧ _ ∧ _))
    have oS_13 := Lib.hid (oS_12.out.kp hn13 (fun b e => by omega))
    have oU_13 := Lib.hid (oU_12.out.kp hn13 (by omega) (fun b e => by omega))
    have K13 : New w w13 := New.one K12 hn13 hwbr
    clear cP0 cP1 cP2 lP cM0 cM1 lM cE0 cE1 cE2 lE cR0 cR1 cR2 fR lR cQ0 cQ1 fQ lQ cX0 cX1 cX2 fX lX
    clear bR_12 bQ_12 bX_12 bP_12 bM_12 bE_12 oC_12 oS_12 oU_12 K12 r12 hn13
    obtain ⟨e1, f1, rfl, _⟩ := hA.len
    obtain ⟨e2, f2, rfl, _⟩ := hB.len
    obtain ⟨e3, f3, rfl, _⟩ := hC.len
    have oD_13 := Lib.hid (show _ ∧ _ ∧ _ from ⟨hA, hB, hC⟩)
    clear hA hB hC
    obtain ⟨cP0, cP1, cP2⟩ := cells3 bP_13
    have lP := heap_lt bP_13
    obtain ⟨cM0, cM1⟩ := cells2 bM_13
    have lM := heap_lt bM_13
    obtain ⟨cE0, cE1, cE2⟩ := cells3 bE_13
    have lE := heap_lt bE_13
    obtain ⟨cR0, cR1, cR2⟩ := cells3 bR_13
    have fR := frozen_of_heap bR_13
    have lR := heap_lt bR_13
    obtain ⟨cQ0, cQ1⟩ := cells2 bQ_13
    have fQ := frozen_of_heap bQ_13
    have lQ := heap_lt bQ_13
    obtain ⟨cX0, cX1, cX2⟩ := cells3 bX_13
    have fX := frozen_of_heap bX_13
    have lX := heap_lt bX_13
    refine hK.out _ _ ?_ (fun hHeld2 => ?_)
    · exact ⟨cP0, cP1, cP2, cM0, cM1, cE0, cE1, cE2⟩
    clear hK K hHeld
    have hHeld := hHeld2
    clear hHeld2
    try simp only [AP]
    refine HR 5 rfl fun K hK => ?_
    go_simp
    have hk14 : Kp (fun k => k = w.heap.size) w13 (((w13.setCell ⟨w.heap.size, 0, none⟩ (.slice e1 ya.length f1)).setCell ⟨w.heap.size, 1, none⟩ (.slice e2 yb.length f2)).setCell ⟨w.heap.size, 2, none⟩ (.slice e3 m.length f3)) := (Kp.setCell (Kp.setCell (Kp.setCell (Kp.refl (fun k => k = w.heap.size) _) (.inl rfl) _) (.inl rfl) _) (.inl rfl) _)
    have bR_14 : (((w13.setCell ⟨w.heap.size, 0, none⟩ (.slice e1 ya.length f1)).setCell ⟨w.heap.size, 1, none⟩ (.slice e2 yb.length f2)).setCell ⟨w.heap.size, 2, none⟩ (.slice e3 m.length f3)).heap[w.heap.size]? = some (.cells #[.slice e1 ya.length f1, .slice e2 yb.length f2, .slice e3 m.length f3] 49) := (setCell_heap (setCell_heap (setCell_heap bR_13 _) _) _)
    generalize (((w13.setCell ⟨w.heap.size, 0, none⟩ (.slice e1 ya.length f1)).setCell ⟨w.heap.size, 1, none⟩ (.slice e2 yb.length f2)).setCell ⟨w.heap.size, 2, none⟩ (.slice e3 m.length f3)) = w14 at *
    have z14 := hk14.size
    have bQ_14 := hk14.bo bQ_13
    have bX_14 := hk14.bo bX_13
    have bP_14 := hk14.bo bP_13
    have bM_14 := hk14.bo bM_13
    have bE_14 := hk14.bo bE_13
    have oC_14 := Lib.hid ((⟨oC_13.out.1.kp hk14 (by omega) (fun b e => by omega), oC_13.out.2.1.kp hk14 (by omega) (fun b e => by omega), oC_13.out.2.2.kp hk14 (by omega) (fun b e => by omega)⟩ : _ ∧ _ ∧ _))
    have oS_14 := Lib.hid (oS_13.out.kp hk14 (fun b e => by omega))
    have oU_14 := Lib.hid (oU_13.out.kp hk14 (by omega) (fun b e => by omega))
    have oD_14 := Lib.hid ((⟨oD_13.out.1.kp hk14 (by omega) (fun b e => by omega), oD_13.out.2.1.kp hk14 (by omega) (fun b e => by omega), oD_13.out.2.2.kp hk14 (by omega) (fun b e => by omega)⟩ : _ ∧ _ ∧ _))
    have K14 : New w w14 := New.one K13 hk14 (by omega)
    clear cP0 cP1 cP2 lP cM0 cM1 lM cE0 cE1 cE2 lE cR0 cR1 cR2 fR lR cQ0 cQ1 fQ lQ cX0 cX1 cX2 fX lX
    clear bR_13 bQ_13 bX_13 bP_13 bM_13 bE_13 oC_13 oS_13 oU_13 oD_13 K13 hk14
    obtain ⟨cP0, cP1, cP2⟩ := cells3 bP_14
    have lP := heap_lt bP_14
    obtain ⟨cM0, cM1⟩ := cells2 bM_14
    have lM := heap_lt bM_14
    obtain ⟨cE0, cE1, cE2⟩ := cells3 bE_14
    have lE := heap_lt bE_14
    obtain ⟨cR0, cR1, cR2⟩ := cells3 bR_14
    have fR := frozen_of_heap bR_14
    have lR := heap_lt bR_14
    obtain ⟨cQ0, cQ1⟩ := cells2 bQ_14
    have fQ := frozen_of_heap bQ_14
    have lQ := heap_lt bQ_14
    obtain ⟨cX0, cX1, cX2⟩ := cells3 bX_14
    have fX := frozen_of_heap bX_14
    have lX := heap_lt bX_14
    refine hK.out _ _ ?_ (fun hHeld2 => ?_)
    · exact ⟨cP0, cP1, cP2, cM0, cM1, cE0, cE1, cE2⟩
    clear hK K hHeld
    have hHeld := hHeld2
    clear hHeld2
    try simp only [Act.put]
    refine HR 6 rfl fun K hK => ?_
    go_simp
    have hk15 : Kp (fun k => k = w.heap.size + 1) w14 ((w14.setCell ⟨w.heap.size + 1, 0, none⟩ (.slice aa sa.length da)).setCell ⟨w.heap.size + 1, 1, none⟩ (.slice ab sb.length db)) := (Kp.setCell (Kp.setCell (Kp.refl (fun k => k = w.heap.size + 1) _) (.inl rfl) _) (.inl rfl) _)
    have bQ_15 : ((w14.setCell ⟨w.heap.size + 1, 0, none⟩ (.slice aa sa.length da)).setCell ⟨w.heap.size + 1, 1, none⟩ (.slice ab sb.length db)).heap[w.heap.size + 1]? = some (.cells #[.slice aa sa.length da, .slice ab sb.length db] 29) := (setCell_heap (setCell_heap bQ_14 _) _)
    generalize ((w14.setCell ⟨w.heap.size + 1, 0, none⟩ (.slice aa sa.length da)).setCell ⟨w.heap.size + 1, 1, none⟩ (.slice ab sb.length db)) = w15 at *
    have z15 := hk15.size
    have bR_15 := hk15.bo bR_14
    have bX_15 := hk15.bo bX_14
    have bP_15 := hk15.bo bP_14
    have bM_15 := hk15.bo bM_14
    have bE_15 := hk15.bo bE_14
    have oC_15 := Lib.hid ((⟨oC_14.out.1.kp hk15 (by omega) (fun b e => by omega), oC_14.out.2.1.kp hk15 (by omega) (fun b e => by omega), oC_14.out.2.2.kp hk15 (by omega) (fun b e => by omega)⟩ : _ ∧ _ ∧ _))
    have oS_15 := Lib.hid (oS_14.out.kp hk15 (fun b e => by omega))
    have oU_15 := Lib.hid (oU_14.out.kp hk15 (by omega) (fun b e => by omega))
    have oD_15 := Lib.hid ((⟨oD_14.out.1.kp hk15 (by omega) (fun b e => by omega), oD_14.out.2.1.kp hk15 (by omega) (fun b e => by omega), oD_14.out.2.2.kp hk15 (by omega) (fun b e => by omega)⟩ : _ ∧ _ ∧ _))
    have K15 : New w w15 := New.one K14 hk15 (by omega)
    clear cP0 cP1 cP2 lP cM0 cM1 lM cE0 cE1 cE2 lE cR0 cR1 cR2 fR lR cQ0 cQ1 fQ lQ cX0 cX1 cX2 fX lX
    clear bR_14 bQ_14 bX_14 bP_14 bM_14 bE_14 oC_14 oS_14 oU_14 oD_14 K14 hk15
    obtain ⟨cP0, cP1, cP2⟩ := cells3 bP_15
    have lP := heap_lt bP_15
    obtain ⟨cM0, cM1⟩ := cells2 bM_15
    have lM := heap_lt bM_15
    obtain ⟨cE0, cE1, cE2⟩ := cells3 bE_15
    have lE := heap_lt bE_15
    obtain ⟨cR0, cR1, cR2⟩ := cells3 bR_15
    have fR := frozen_of_heap bR_15
    have lR := heap_lt bR_15
    obtain ⟨cQ0, cQ1⟩ := cells2 bQ_15
    have fQ := frozen_of_heap bQ_15
    have lQ := heap_lt bQ_15
    obtain ⟨cX0, cX1, cX2⟩ := cells3 bX_15
    have fX := frozen_of_heap bX_15
    have lX := heap_lt bX_15
    refine hK.out _ _ ?_ (fun hHeld2 => ?_)
    · exact ⟨cP0, cP1, cP2, cM0, cM1, cE0, cE1, cE2⟩
    clear hK K hHeld
    have hHeld := hHeld2
    clear hHeld2
    try simp only [Act.put]
    refine HR 7 rfl fun K hK => ?_
    go_simp
    have hk16 : Kp (fun k => k = w.heap.size + 1 + 1) w15 (((w15.setCell ⟨w.heap.size + 1 + 1, 0, none⟩ (.int .i64 kU)).setCell ⟨w.heap.size + 1 + 1, 1, none⟩ (.int .i64 y)).setCell ⟨w.heap.size + 1 + 1, 2, none⟩ (.slice aU lU.length tU)) := (Kp.setCell (Kp.setCell (Kp.setCell (Kp.refl (fun k => k = w.heap.size + 1 + 1) _) (.inl rfl) _) (.inl rfl) _) (.inl rfl) _)
    have bX_16 : (((w15.setCell ⟨w.heap.size + 1 + 1, 0, none⟩ (.int .i64 kU)).setCell ⟨w.heap.size + 1 + 1, 1, none⟩ (.int .i64 y)).setCell ⟨w.heap.size + 1 + 1, 2, none⟩ (.slice aU lU.length tU)).heap[w.heap.size + 1 + 1]? = some (.cells #[.int .i64 kU, .int .i64 y, .slice aU lU.length tU] 52) := (setCell_heap (setCell_heap (setCell_heap bX_15 _) _) _)
    generalize (((w15.setCell ⟨w.heap.size + 1 + 1, 0, none⟩ (.int .i64 kU)).setCell ⟨w.heap.size + 1 + 1, 1, none⟩ (.int .i64 y)).setCell ⟨w.heap.size + 1 + 1, 2, none⟩ (.slice aU lU.length tU)) = w16 at *
    have z16 := hk16.size
    have bR_16 := hk16.bo bR_15
    have bQ_16 := hk16.bo bQ_15
    have bP_16 := hk16.bo bP_15
    have bM_16 := hk16.bo bM_15
    have bE_16 := hk16.bo bE_15
    have oC_16 := Lib.hid ((⟨oC_15.out.1.kp hk16 (by omega) (fun b e => by omega), oC_15.out.2.1.kp hk16 (by omega) (fun b e => by omega), oC_15.out.2.2.kp hk16 (by omega) (fun b e => by omega)⟩ : _ ∧ _ ∧ _))
    have oS_16 := Lib.hid (oS_15.out.kp hk16 (fun b e => by omega))
    have oU_16 := Lib.hid (oU_15.out.kp hk16 (by omega) (fun b e => by omega))
    have oD_16 := Lib.hid ((⟨oD_15.out.1.kp hk16 (by omega) (fun b e => by omega), oD_15.out.2.1.kp hk16 (by omega) (fun b e => by omega), oD_15.out.2.2.kp hk16 (by omega) (fun b e => by omega)⟩ : _ ∧ _ ∧ _))
    have K16 : New w w16 := New.one K15 hk16 (by omega)
    clear cP0 cP1 cP2 lP cM0 cM1 lM cE0 cE1 cE2 lE cR0 cR1 cR2 fR lR cQ0 cQ1 fQ lQ cX0 cX1 cX2 fX lX
    clear bR_15 bQ_15 bX_15 bP_15 bM_15 bE_15 oC_15 oS_15 oU_15 oD_15 K15 hk16
    obtain ⟨cP0, cP1, cP2⟩ := cells3 bP_16
    have lP := heap_lt bP_16
    obtain ⟨cM0, cM1⟩ := cells2 bM_16
    have lM := heap_lt bM_16
    obtain ⟨cE0, cE1, cE2⟩ := cells3 bE_16
    have lE := heap_lt bE_16
    obtain ⟨cR0, cR1, cR2⟩ := cells3 bR_16
    have fR := frozen_of_heap bR_16
    have lR := heap_lt bR_16
    obtain ⟨cQ0, cQ1⟩ := cells2 bQ_16
    have fQ := frozen_of_heap bQ_16
    have lQ := heap_lt bQ_16
    obtain ⟨cX0, cX1, cX2⟩ := cells3 bX_16
    have fX := frozen_of_heap bX_16
    have lX := heap_lt bX_16
    refine hK.out _ _ ?_ (fun hHeld2 => ?_)
    · exact ⟨cP0, cP1, cP2, cM0, cM1, cE0, cE1, cE2⟩
    clear hK K hHeld
    have hHeld := hHeld2
    clear hHeld2
    try simp only [Act.put]
    refine wpAnyH_done (by kernel_rfl) ?_ _
    go_wp2
    exact bodyPost_ret (results_cell3 rfl _ _ _ _ _ _ _ _ _ _ _ _ _ _ _ _ _ rfl rfl rfl bR_16 bQ_16 bX_16 Try.underlying49 Try.underlying29 Try.underlying52 rfl rfl rfl (by kernel_rfl) (by kernel_rfl) (by kernel_rfl)) rfl ⟨_, _, _, ya, yb, m, _, _, sa, sb, kU, y, _, lU, rfl, K16, oD_16.out.1.mono (lo' := w.heap.size) (hi' := w16.heap.size) (by omega) (by omega), oD_16.out.2.1.mono (lo' := w.heap.size) (hi' := w16.heap.size) (by omega) (by omega), oD_16.out.2.2.mono (lo' := w.heap.size) (hi' := w16.heap.size) (by omega) (by omega), oS_16.out.mono (lo' := w.heap.size) (hi' := w16.heap.size) (by omega) (by omega), oU_16.out.mono (lo' := w.heap.size) (hi' := w16.heap.size) (by omega) (by omega), by omega, by omega, by omega, (fun y hy => by have := hlS.out y hy; omega), by omega⟩
  have hub : (u == 0) = false := by simpa using hu
  obtain ⟨cP0, cP1, cP2⟩ := cells3 bP_9
  have lP := heap_lt bP_9
  obtain ⟨cM0, cM1⟩ := cells2 bM_9
  have lM := heap_lt bM_9
  obtain ⟨cE0, cE1, cE2⟩ := cells3 bE_9
  have lE := heap_lt bE_9
  obtain ⟨cR0, cR1, cR2⟩ := cells3 bR_9
  have fR := frozen_of_heap bR_9
  have lR := heap_lt bR_9
  obtain ⟨cQ0, cQ1⟩ := cells2 bQ_9
  have fQ := frozen_of_heap bQ_9
  have lQ := heap_lt bQ_9
  obtain ⟨cX0, cX1, cX2⟩ := cells3 bX_9
  have fX := frozen_of_heap bX_9
  have lX := heap_lt bX_9
  go_wp2_with fail
  refine wp_region_held_drew (S := fun w' => w'.cell? ⟨bP, 0, none⟩ = some (.slice a1 xa.length d1) ∧ w'.cell? ⟨bP, 1, none⟩ = some (.slice a2 xb.length d2) ∧ w'.cell? ⟨bP, 2, none⟩ = some (.slice a3 l.length d3) ∧ w'.cell? ⟨bM, 0, none⟩ = some (.slice aa sa.length da) ∧ w'.cell? ⟨bM, 1, none⟩ = some (.slice ab sb.length db) ∧ w'.cell? ⟨bE, 0, none⟩ = some (.int .i64 kU) ∧ w'.cell? ⟨bE, 1, none⟩ = some (.int .i64 vU) ∧ w'.cell? ⟨bE, 2, none⟩ = some (.slice aU lU.length tU)) (by kernel_rfl) ?_ (fun hHeld => ?_)
  · exact ⟨cP0, cP1, cP2, cM0, cM1, cE0, cE1, cE2⟩
  clear cP0 cP1 cP2 lP cM0 cM1 lM cE0 cE1 cE2 lE cR0 cR1 cR2 fR lR cQ0 cQ1 fQ lQ cX0 cX1 cX2 fX lX
  have hn10 : New w9 w9.drew := (Kp.refl _ _).drew
  generalize w9.drew = w10 at *
  have z10 := hn10.size
  have bR_10 := hn10.bk bR_9
  have bQ_10 := hn10.bk bQ_9
  have bX_10 := hn10.bk bX_9
  have bP_10 := hn10.bk bP_9
  have bM_10 := hn10.bk bM_9
  have bE_10 := hn10.bk bE_9
  have oC_10 := Lib.hid ((⟨oC_9.out.1.new (by omega) hn10, oC_9.out.2.1.new (by omega) hn10, oC_9.out.2.2.new (by omega) hn10⟩ : _ ∧ _ ∧ _))
  have oS_10 := Lib.hid (oS_9.out.new (by omega) hn10)
  have oU_10 := Lib.hid (oU_9.out.new (by omega) hn10)
  have K10 := K9.trans hn10
  have r10 := r9.nw hn10
  clear bR_9 bQ_9 bX_9 bP_9 bM_9 bE_9 oC_9 oS_9 oU_9 K9 r9 hn10
  obtain ⟨cP0, cP1, cP2⟩ := cells3 bP_10
  have lP := heap_lt bP_10
  obtain ⟨cM0, cM1⟩ := cells2 bM_10
  have lM := heap_lt bM_10
  obtain ⟨cE0, cE1, cE2⟩ := cells3 bE_10
  have lE := heap_lt bE_10
  obtain ⟨cR0, cR1, cR2⟩ := cells3 bR_10
  have fR := frozen_of_heap bR_10
  have lR := heap_lt bR_10
  obtain ⟨cQ0, cQ1⟩ := cells2 bQ_10
  have fQ := frozen_of_heap bQ_10
  have lQ := heap_lt bQ_10
  obtain ⟨cX0, cX1, cX2⟩ := cells3 bX_10
  have fX := frozen_of_heap bX_10
  have lX := heap_lt bX_10
  refine HT 0 rfl ?_
  try simp only [AP]
  refine HT 1 rfl ?_
  try simp only [AP]
  refine HT 3 rfl ?_
  try simp only [AP]
  refine HT 4 rfl ?_
  try simp only [AP]
  refine HR 2 rfl fun K hK => ?_
  go_simp
  refine (Mut.l2Mutate w10 br (qU + 1) w.heap.size w10.heap.size a1 a2 a3 d1 d2 d3 xa xb l r10 (oC_10.out.1.mono (by omega) (by omega)) (oC_10.out.2.1.mono (by omega) (by omega)) (oC_10.out.2.2.mono (by omega) (by omega)) (Nat.le_refl _) (by omega) (by omega) (by omega) (by omega) (by omega)).mono ?_
  rintro e w11 ⟨va, vb, vc, ya, yb, m, qU, rfl, hn11, r11, hqU, hA, hB, hC, hl1, hl2, hl3⟩
  have z11 := hn11.size
  have bR_11 := hn11.bo bR_10
  have bQ_11 := hn11.bo bQ_10
  have bX_11 := hn11.bo bX_10
  have bP_11 := hn11.bo bP_10
  have bM_11 := hn11.bo bM_10
  have bE_11 := hn11.bo bE_10
  have oC_11 := Lib.hid ((⟨oC_10.out.1.kp hn11 (by omega) (fun b e => by omega), oC_10.out.2.1.kp hn11 (by omega) (fun b e => by omega), oC_10.out.2.2.kp hn11 (by omega) (fun b e => by omega)⟩ : _ ∧ _ ∧ _))
  have oS_11 := Lib.hid (oS_10.out.kp hn11 (fun b e => by omega))
  have oU_11 := Lib.hid (oU_10.out.kp hn11 (by omega) (fun b e => by omega))
  have K11 : New w w11 := New.one K10 hn11 hwbr
  clear cP0 cP1 cP2 lP cM0 cM1 lM cE0 cE1 cE2 lE cR0 cR1 cR2 fR lR cQ0 cQ1 fQ lQ cX0 cX1 cX2 fX lX
  clear bR_10 bQ_10 bX_10 bP_10 bM_10 bE_10 oC_10 oS_10 oU_10 K10 r10 hn11
  obtain ⟨e1, f1, rfl, _⟩ := hA.len
  obtain ⟨e2, f2, rfl, _⟩ := hB.len
  obtain ⟨e3, f3, rfl, _⟩ := hC.len
  have oD_11 := Lib.hid (show _ ∧ _ ∧ _ from ⟨hA, hB, hC⟩)
  clear hA hB hC
  obtain ⟨cP0, cP1, cP2⟩ := cells3 bP_11
  have lP := heap_lt bP_11
  obtain ⟨cM0, cM1⟩ := cells2 bM_11
  have lM := heap_lt bM_11
  obtain ⟨cE0, cE1, cE2⟩ := cells3 bE_11
  have lE := heap_lt bE_11
  obtain ⟨cR0, cR1, cR2⟩ := cells3 bR_11
  have fR := frozen_of_heap bR_11
  have lR := heap_lt bR_11
  obtain ⟨cQ0, cQ1⟩ := cells2 bQ_11
  have fQ := frozen_of_heap bQ_11
  have lQ := heap_lt bQ_11
  obtain ⟨cX0, cX1, cX2⟩ := cells3 bX_11
  have fX := frozen_of_heap bX_11
  have lX := heap_lt bX_11
  refine hK.out _ _ ?_ (fun hHeld2 => ?_)
  · exact ⟨cP0, cP1, cP2, cM0, cM1, cE0, cE1, cE2⟩
  clear hK K hHeld
  have hHeld := hHeld2
  clear hHeld2
  try simp only [AP]
  refine HR 5 rfl fun K hK => ?_
  go_simp
  have hk12 : Kp (fun k => k = w.heap.size) w11 (((w11.setCell ⟨w.heap.size, 0, none⟩ (.slice e1 ya.length f1)).setCell ⟨w.heap.size, 1, none⟩ (.slice e2 yb.length f2)).setCell ⟨w.heap.size, 2, none⟩ (.slice e3 m.length f3)) := (Kp.setCell (Kp.setCell (Kp.setCell (Kp.refl (fun k => k = w.heap.size) _) (.inl rfl) _) (.inl rfl) _) (.inl rfl) _)
  have bR_12 : (((w11.setCell ⟨w.heap.size, 0, none⟩ (.slice e1 ya.length f1)).setCell ⟨w.heap.size, 1, none⟩ (.slice e2 yb.length f2)).setCell ⟨w.heap.size, 2, none⟩ (.slice e3 m.length f3)).heap[w.heap.size]? = some (.cells #[.slice e1 ya.length f1, .slice e2 yb.length f2, .slice e3 m.length f3] 49) := (setCell_heap (setCell_heap (setCell_heap bR_11 _) _) _)
  generalize (((w11.setCell ⟨w.heap.size, 0, none⟩ (.slice e1 ya.length f1)).setCell ⟨w.heap.size, 1, none⟩ (.slice e2 yb.length f2)).setCell ⟨w.heap.size, 2, none⟩ (.slice e3 m.length f3)) = w12 at *
  have z12 := hk12.size
  have bQ_12 := hk12.bo bQ_11
  have bX_12 := hk12.bo bX_11
  have bP_12 := hk12.bo bP_11
  have bM_12 := hk12.bo bM_11
  have bE_12 := hk12.bo bE_11
  have oC_12 := Lib.hid ((⟨oC_11.out.1.kp hk12 (by omega) (fun b e => by omega), oC_11.out.2.1.kp hk12 (by omega) (fun b e => by omega), oC_11.out.2.2.kp hk12 (by omega) (fun b e => by omega)⟩ : _ ∧ _ ∧ _))
  have oS_12 := Lib.hid (oS_11.out.kp hk12 (fun b e => by omega))
  have oU_12 := Lib.hid (oU_11.out.kp hk12 (by omega) (fun b e => by omega))
  have oD_12 := Lib.hid ((⟨oD_11.out.1.kp hk12 (by omega) (fun b e => by omega), oD_11.out.2.1.kp hk12 (by omega) (fun b e => by omega), oD_11.out.2.2.kp hk12 (by omega) (fun b e => by omega)⟩ : _ ∧ _ ∧ _))
  have K12 : New w w12 := New.one K11 hk12 (by omega)
  clear cP0 cP1 cP2 lP cM0 cM1 lM cE0 cE1 cE2 lE cR0 cR1 cR2 fR lR cQ0 cQ1 fQ lQ cX0 cX1 cX2 fX lX
  clear bR_11 bQ_11 bX_11 bP_11 bM_11 bE_11 oC_11 oS_11 oU_11 oD_11 K11 hk12
  obtain ⟨cP0, cP1, cP2⟩ := cells3 bP_12
  have lP := heap_lt bP_12
  obtain ⟨cM0, cM1⟩ := cells2 bM_12
  have lM := heap_lt bM_12
  obtain ⟨cE0, cE1, cE2⟩ := cells3 bE_12
  have lE := heap_lt bE_12
  obtain ⟨cR0, cR1, cR2⟩ := cells3 bR_12
  have fR := frozen_of_heap bR_12
  have lR := heap_lt bR_12
  obtain ⟨cQ0, cQ1⟩ := cells2 bQ_12
  have fQ := frozen_of_heap bQ_12
  have lQ := heap_lt bQ_12
  obtain ⟨cX0, cX1, cX2⟩ := cells3 bX_12
  have fX := frozen_of_heap bX_12
  have lX := heap_lt bX_12
  refine hK.out _ _ ?_ (fun hHeld2 => ?_)
  · exact ⟨cP0, cP1, cP2, cM0, cM1, cE0, cE1, cE2⟩
  clear hK K hHeld
  have hHeld := hHeld2
  clear hHeld2
  try simp only [Act.put]
  refine HR 6 rfl fun K hK => ?_
  go_simp
  have hk13 : Kp (fun k => k = w.heap.size + 1) w12 ((w12.setCell ⟨w.heap.size + 1, 0, none⟩ (.slice aa sa.length da)).setCell ⟨w.heap.size + 1, 1, none⟩ (.slice ab sb.length db)) := (Kp.setCell (Kp.setCell (Kp.refl (fun k => k = w.heap.size + 1) _) (.inl rfl) _) (.inl rfl) _)
  have bQ_13 : ((w12.setCell ⟨w.heap.size + 1, 0, none⟩ (.slice aa sa.length da)).setCell ⟨w.heap.size + 1, 1, none⟩ (.slice ab sb.length db)).heap[w.heap.size + 1]? = some (.cells #[.slice aa sa.length da, .slice ab sb.length db] 29) := (setCell_heap (setCell_heap bQ_12 _) _)
  generalize ((w12.setCell ⟨w.heap.size + 1, 0, none⟩ (.slice aa sa.length da)).setCell ⟨w.heap.size + 1, 1, none⟩ (.slice ab sb.length db)) = w13 at *
  have z13 := hk13.size
  have bR_13 := hk13.bo bR_12
  have bX_13 := hk13.bo bX_12
  have bP_13 := hk13.bo bP_12
  have bM_13 := hk13.bo bM_12
  have bE_13 := hk13.bo bE_12
  have oC_13 := Lib.hid ((⟨oC_12.out.1.kp hk13 (by omega) (fun b e => by omega), oC_12.out.2.1.kp hk13 (by omega) (fun b e => by omega), oC_12.out.2.2.kp hk13 (by omega) (fun b e => by omega)⟩ : _ ∧ _ ∧ _))
  have oS_13 := Lib.hid (oS_12.out.kp hk13 (fun b e => by omega))
  have oU_13 := Lib.hid (oU_12.out.kp hk13 (by omega) (fun b e => by omega))
  have oD_13 := Lib.hid ((⟨oD_12.out.1.kp hk13 (by omega) (fun b e => by omega), oD_12.out.2.1.kp hk13 (by omega) (fun b e => by omega), oD_12.out.2.2.kp hk13 (by omega) (fun b e => by omega)⟩ : _ ∧ _ ∧ _))
  have K13 : New w w13 := New.one K12 hk13 (by omega)
  clear cP0 cP1 cP2 lP cM0 cM1 lM cE0 cE1 cE2 lE cR0 cR1 cR2 fR lR cQ0 cQ1 fQ lQ cX0 cX1 cX2 fX lX
  clear bR_12 bQ_12 bX_12 bP_12 bM_12 bE_12 oC_12 oS_12 oU_12 oD_12 K12 hk13
  obtain ⟨cP0, cP1, cP2⟩ := cells3 bP_13
  have lP := heap_lt bP_13
  obtain ⟨cM0, cM1⟩ := cells2 bM_13
  have lM := heap_lt bM_13
  obtain ⟨cE0, cE1, cE2⟩ := cells3 bE_13
  have lE := heap_lt bE_13
  obtain ⟨cR0, cR1, cR2⟩ := cells3 bR_13
  have fR := frozen_of_heap bR_13
  have lR := heap_lt bR_13
  obtain ⟨cQ0, cQ1⟩ := cells2 bQ_13
  have fQ := frozen_of_heap bQ_13
  have lQ := heap_lt bQ_13
  obtain ⟨cX0, cX1, cX2⟩ := cells3 bX_13
  have fX := frozen_of_heap bX_13
  have lX := heap_lt bX_13
  refine hK.out _ _ ?_ (fun hHeld2 => ?_)
  · exact ⟨cP0, cP1, cP2, cM0, cM1, cE0, cE1, cE2⟩
  clear hK K hHeld
  have hHeld := hHeld2
  clear hHeld2
  try simp only [Act.put]
  refine HR 7 rfl fun K hK => ?_
  go_simp
  have hk14 : Kp (fun k => k = w.heap.size + 1 + 1) w13 (((w13.setCell ⟨w.heap.size + 1 + 1, 0, none⟩ (.int .i64 kU)).setCell ⟨w.heap.size + 1 + 1, 1, none⟩ (.int .i64 vU)).setCell ⟨w.heap.size + 1 + 1, 2, none⟩ (.slice aU lU.length tU)) := (Kp.setCell (Kp.setCell (Kp.setCell (Kp.refl (fun k => k = w.heap.size + 1 + 1) _) (.inl rfl) _) (.inl rfl) _) (.inl rfl) _)
  have bX_14 : (((w13.setCell ⟨w.heap.size + 1 + 1, 0, none⟩ (.int .i64 kU)).setCell ⟨w.heap.size + 1 + 1, 1, none⟩ (.int .i64 vU)).setCell ⟨w.heap.size + 1 + 1, 2, none⟩ (.slice aU lU.length tU)).heap[w.heap.size + 1 + 1]? = some (.cells #[.int .i64 kU, .int .i64 vU, .slice aU lU.length tU] 52) := (setCell_heap (setCell_heap (setCell_heap bX_13 _) _) _)
  generalize (((w13.setCell ⟨w.heap.size + 1 + 1, 0, none⟩ (.int .i64 kU)).setCell ⟨w.heap.size + 1 + 1, 1, none⟩ (.int .i64 vU)).setCell ⟨w.heap.size + 1 + 1, 2, none⟩ (.slice aU lU.length tU)) = w14 at *
  have z14 := hk14.size
  have bR_14 := hk14.bo bR_13
  have bQ_14 := hk14.bo bQ_13
  have bP_14 := hk14.bo bP_13
  have bM_14 := hk14.bo bM_13
  have bE_14 := hk14.bo bE_13
  have oC_14 := Lib.hid ((⟨oC_13.out.1.kp hk14 (by omega) (fun b e => by omega), oC_13.out.2.1.kp hk14 (by omega) (fun b e => by omega), oC_13.out.2.2.kp hk14 (by omega) (fun b e => by omega)⟩ : _ ∧ _ ∧ _))
  have oS_14 := Lib.hid (oS_13.out.kp hk14 (fun b e => by omega))
  have oU_14 := Lib.hid (oU_13.out.kp hk14 (by omega) (fun b e => by omega))
  have oD_14 := Lib.hid ((⟨oD_13.out.1.kp hk14 (by omega) (fun b e => by omega), oD_13.out.2.1.kp hk14 (by omega) (fun b e => by omega), oD_13.out.2.2.kp hk14 (by omega) (fun b e => by omega)⟩ : _ ∧ _ ∧ _))
  have K14 : New w w14 := New.one K13 hk14 (by omega)
  clear cP0 cP1 cP2 lP cM0 cM1 lM cE0 cE1 cE2 lE cR0 cR1 cR2 fR lR cQ0 cQ1 fQ lQ cX0 cX1 cX2 fX lX
  clear bR_13 bQ_13 bX_13 bP_13 bM_13 bE_13 oC_13 oS_13 oU_13 oD_13 K13 hk14
  obtain ⟨cP0, cP1, cP2⟩ := cells3 bP_14
  have lP := heap_lt bP_14
  obtain ⟨cM0, cM1⟩ := cells2 bM_14
  have lM := heap_lt bM_14
  obtain ⟨cE0, cE1, cE2⟩ := cells3 bE_14
  have lE := heap_lt bE_14
  obtain ⟨cR0, cR1, cR2⟩ := cells3 bR_14
  have fR := frozen_of_heap bR_14
  have lR := heap_lt bR_14
  obtain ⟨cQ0, cQ1⟩ := cells2 bQ_14
  have fQ := frozen_of_heap bQ_14
  have lQ := heap_lt bQ_14
  obtain ⟨cX0, cX1, cX2⟩ := cells3 bX_14
  have fX := frozen_of_heap bX_14
  have lX := heap_lt bX_14
  refine hK.out _ _ ?_ (fun hHeld2 => ?_)
  · exact ⟨cP0, cP1, cP2, cM0, cM1, cE0, cE1, cE2⟩
  clear hK K hHeld
  have hHeld := hHeld2
  clear hHeld2
  try simp only [Act.put]
  refine wpAnyH_done (by kernel_rfl) ?_ _
  go_wp2
  exact bodyPost_ret (results_cell3 rfl _ _ _ _ _ _ _ _ _ _ _ _ _ _ _ _ _ rfl rfl rfl bR_14 bQ_14 bX_14 Try.underlying49 Try.underlying29 Try.underlying52 rfl rfl rfl (by kernel_rfl) (by kernel_rfl) (by kernel_rfl)) rfl ⟨_, _, _, ya, yb, m, _, _, sa, sb, kU, vU, _, lU, rfl, K14, oD_14.out.1.mono (lo' := w.heap.size) (hi' := w14.heap.size) (by omega) (by omega), oD_14.out.2.1.mono (lo' := w.heap.size) (hi' := w14.heap.size) (by omega) (by omega), oD_14.out.2.2.mono (lo' := w.heap.size) (hi' := w14.heap.size) (by omega) (by omega), oS_14.out.mono (lo' := w.heap.size) (hi' := w14.heap.size) (by omega) (by omega), oU_14.out.mono (lo' := w.heap.size) (hi' := w14.heap.size) (by omega) (by omega), by omega, by omega, by omega, (fun y hy => by have := hlS.out y hy; omega), by omega⟩
end Go.Proofs.Ytbicpkmlionldaa.DrawQ
