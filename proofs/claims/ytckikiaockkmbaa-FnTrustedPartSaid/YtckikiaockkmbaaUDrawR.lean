/- The draws of a program with a memory: DrawMemoryValid, DrawPublicPart, DrawTrustedPart. No conditions. -/
import Derived.Test.YtckikiaockkmbaaUMut
import Derived.Test.YtckikiaockkmbaaUDrawG
import Derived.Test.YtckikiaockkmbaaUDrawM
import Derived.Test.YtckikiaockkmbaaUP1
namespace Go.Proofs.Ytckikiaockkmbaa.DrawR
open Go.RowKit Kit Draw DrawX MarkC
set_option linter.unusedVariables false
theorem results_cell2 {P : Program} {fn : Func} {p q : Tmp} {ty ty2 : TypeId} (h : fn.results = #[.cell p ty, .cell q ty2]) (tmps : Array Value) (w : World) (g g2 : Nat) (t t2 : TypeId) (cs cs2 : Array Value) (fr fr2 : Nat × Nat) (d d2 : TypeDesc)
    (hp : tmps.getD p undef = .pointer (some ⟨g, 0, none⟩)) (hq : tmps.getD q undef = .pointer (some ⟨g2, 0, none⟩)) (hg : w.heap[g]? = some (.cells cs t fr)) (hg2 : w.heap[g2]? = some (.cells cs2 t2 fr2))
    (hu : P.underlying ty = some d) (hu2 : P.underlying ty2 = some d2) (hd : (match d with | .struct _ | .array _ _ => true | _ => false) = true) (hd2 : (match d2 with | .struct _ | .array _ _ => true | _ => false) = true) (hi : (P.info? ty).map (·.size) = some cs.size) (hi2 : (P.info? ty2).map (·.size) = some cs2.size) :
    (results fn tmps).run P w = .ok (.tuple #[.agg cs, .agg cs2]) w := by
  have hp' : tmps[p]?.getD undef = .pointer (some ⟨g, 0, none⟩) := by simpa using hp
  have hq' : tmps[q]?.getD undef = .pointer (some ⟨g2, 0, none⟩) := by simpa using hq
  simp [results, h, hp', hq', asAddr, run_loadVar_row w g t ty cs fr d hg hu hd hi, run_loadVar_row w g2 t2 ty2 cs2 fr2 d2 hg2 hu2 hd2 hi2]
/-- a program and a memory -/
def GotPM (w : World) (e : Ending) (w' : World) : Prop := ∃ (va vb vc : Value) (ya yb : List Int) (m : List St) (ma mb : Value) (za : List Int) (zb : List (List Int)), e = .returned (.tuple #[.agg #[va, vb, vc], .agg #[ma, mb]]) ∧ New w w' ∧ IntsR w' w.heap.size w'.heap.size va ya ∧ IntsR w' w.heap.size w'.heap.size vb yb ∧ StsR w' w.heap.size w'.heap.size vc m ∧ MemO w' w.heap.size w'.heap.size ma mb za zb ∧ St.sizes m ≤ 608400 ∧ za.length ≤ 100 ∧ zb.length ≤ 100 ∧ ∀ y ∈ zb, y.length ≤ 4
set_option maxHeartbeats 16000000 in
set_option maxRecDepth 100000 in
theorem drawMem (w : World) (a : Option Addr) (len cap : Nat) (h : Src w a len cap) : Calls Try.prog 88 #[.slice a len cap] w (GotPM w) := by
  go_enter Try.func88, Try.ntmps88
  go_upto_region 1 with fail
  have N0 : New w ((w.alloc (.cells #[.slice none 0 0, .slice none 0 0, .slice none 0 0] 37)).alloc (.cells #[.slice none 0 0, .slice none 0 0] 79)) := ((Kp.refl _ _).alloc _).alloc _
  have bR_0 : ((w.alloc (.cells #[.slice none 0 0, .slice none 0 0, .slice none 0 0] 37)).alloc (.cells #[.slice none 0 0, .slice none 0 0] 79)).heap[w.heap.size]? = some (.cells #[.slice none 0 0, .slice none 0 0, .slice none 0 0] 37) := heap_old (alloc_heap _ _)
  have bQ_0 : ((w.alloc (.cells #[.slice none 0 0, .slice none 0 0, .slice none 0 0] 37)).alloc (.cells #[.slice none 0 0, .slice none 0 0] 79)).heap[w.heap.size + 1]? = some (.cells #[.slice none 0 0, .slice none 0 0] 79) := heap_at (by simp)
  have z0 : w.heap.size + 1 < ((w.alloc (.cells #[.slice none 0 0, .slice none 0 0, .slice none 0 0] 37)).alloc (.cells #[.slice none 0 0, .slice none 0 0] 79)).heap.size := by simp
  generalize ((w.alloc (.cells #[.slice none 0 0, .slice none 0 0, .slice none 0 0] 37)).alloc (.cells #[.slice none 0 0, .slice none 0 0] 79)) = w0 at *
  have s0 := h.keep N0
  go_wp2_with fail
  refine (Draw.l17Open w0 _ _ _ s0.1 s0.2.1 s0.2.2).mono ?_
  rintro e w1 ⟨rfl, hn1, r1⟩
  have z1 := hn1.size
  have bR_1 := heap_new hn1 bR_0
  have bQ_1 := heap_new hn1 bQ_0
  have K1 := N0.trans hn1
  have hwbr0 : w.heap.size + 2 ≤ w0.heap.size := by omega
  generalize hbr : w0.heap.size = br at *
  have hwbr : w.heap.size ≤ br := by omega
  clear hbr N0 hn1 bR_0 bQ_0 z0 s0 h
  go_wp2_with fail
  refine (DrawG.l2Program w1 br 0 r1 (by omega)).mono ?_
  rintro e w2 ⟨a1, a2, a3, d1, d2, d3, xa, xb, l, q, rfl, hn2, r2, hq, hA, hB, hC, hxa, hxb, hx, -, -⟩
  have hbl : br < w1.heap.size := r1.lt
  have hll := St.length_sizes l
  have z2 := hn2.size
  have bR_2 := hn2.bo bR_1
  have bQ_2 := hn2.bo bQ_1
  have K2 : New w w2 := New.one K1 hn2 hwbr
  clear bR_1 bQ_1 K1 r1 hn2
  have oC_2 := Lib.hid (show _ ∧ _ ∧ _ from ⟨hA, hB, hC⟩)
  clear hA hB hC
  obtain ⟨hn3, y3, bP_3⟩ := newb w2 (.cells #[.slice a1 xa.length d1, .slice a2 xb.length d2, .slice a3 l.length d3] 37)
  go_upto_region 3 with fail
  have yy3 : br < w2.heap.size := r2.lt
  generalize hbP : w2.heap.size = bP at bP_3 y3 yy3 ⊢
  generalize (w2.alloc (.cells #[.slice a1 xa.length d1, .slice a2 xb.length d2, .slice a3 l.length d3] 37)) = w3 at *
  have z3 := hn3.size
  have bR_3 := hn3.bk bR_2
  have bQ_3 := hn3.bk bQ_2
  have oC_3 := Lib.hid ((⟨oC_2.out.1.new (by omega) hn3, oC_2.out.2.1.new (by omega) hn3, oC_2.out.2.2.new (by omega) hn3⟩ : _ ∧ _ ∧ _))
  have K3 := K2.trans hn3
  have r3 := r2.nw hn3
  clear bR_2 bQ_2 oC_2 K2 r2 hn3
  obtain ⟨cP0, cP1, cP2⟩ := cells3 bP_3
  have lP := heap_lt bP_3
  go_wp2_with fail
  clear cP0 cP1 cP2 lP
  refine (DrawM.l3Memory w3 br (q) a1 a2 a3 xa.length d1 xb.length d2 l.length d3 r3 (by omega) (by omega) (by omega)).mono ?_
  rintro e w4 ⟨u1, u2, za, zb, q3, rfl, hn4, r4, hq3, hM1, hz1, hz2, hz3⟩
  have z4 := hn4.size
  have bR_4 := hn4.bo bR_3
  have bQ_4 := hn4.bo bQ_3
  have bP_4 := hn4.bo bP_3
  have oC_4 := Lib.hid ((⟨oC_3.out.1.kp hn4 (by omega) (fun b e => by omega), oC_3.out.2.1.kp hn4 (by omega) (fun b e => by omega), oC_3.out.2.2.kp hn4 (by omega) (fun b e => by omega)⟩ : _ ∧ _ ∧ _))
  have K4 : New w w4 := New.one K3 hn4 hwbr
  clear bR_3 bQ_3 bP_3 oC_3 K3 r3 hn4
  obtain ⟨⟨a6, d6, rfl⟩, a7, d7, rfl⟩ := hM1.lens
  have hM1h := Lib.hid hM1
  have hz1h := Lib.hid hz1
  have hz2h := Lib.hid hz2
  have hz3h := Lib.hid hz3
  clear hM1 hz1 hz2 hz3
  go_wp2_with fail
  have hMr := hM1h.out.reads
  refine (DrawM.l3Bend w4 br q3 xa.length xb.length w3.heap.size w4.heap.size _ _ za zb r4 hMr.1 hMr.2 (Nat.le_refl _) hz1h.out hz2h.out (by omega) (by omega) hz3h.out (by omega)).mono ?_
  rintro e w5 ⟨u3, u4, sa, sb, qS, rfl, hn5, r5, hqS, hM, hm2, hm3, hm4⟩
  clear hMr hM1h
  have z5 := hn5.size
  have bR_5 := hn5.bo bR_4
  have bQ_5 := hn5.bo bQ_4
  have bP_5 := hn5.bo bP_4
  have oC_5 := Lib.hid ((⟨oC_4.out.1.kp hn5 (by omega) (fun b e => by omega), oC_4.out.2.1.kp hn5 (by omega) (fun b e => by omega), oC_4.out.2.2.kp hn5 (by omega) (fun b e => by omega)⟩ : _ ∧ _ ∧ _))
  have K5 : New w w5 := New.one K4 hn5 hwbr
  clear bR_4 bQ_4 bP_4 oC_4 K4 r4 hn5
  obtain ⟨⟨aa, da, rfl⟩, ab, db, rfl⟩ := hM.lens
  have oS_5 := Lib.hid hM
  have hlS := Lib.hid hm4
  clear hM hm4
  obtain ⟨hn6, y6, bM_6⟩ := newb w5 (.cells #[.slice aa sa.length da, .slice ab sb.length db] 79)
  go_upto_region 4 with fail
  have yy6 : br < w5.heap.size := r5.lt
  generalize hbM : w5.heap.size = bM at bM_6 y6 yy6 ⊢
  generalize (w5.alloc (.cells #[.slice aa sa.length da, .slice ab sb.length db] 79)) = w6 at *
  have z6 := hn6.size
  have bR_6 := hn6.bk bR_5
  have bQ_6 := hn6.bk bQ_5
  have bP_6 := hn6.bk bP_5
  have oC_6 := Lib.hid ((⟨oC_5.out.1.new (by omega) hn6, oC_5.out.2.1.new (by omega) hn6, oC_5.out.2.2.new (by omega) hn6⟩ : _ ∧ _ ∧ _))
  have oS_6 := Lib.hid (oS_5.out.new (by omega) hn6)
  have K6 := K5.trans hn6
  have r6 := r5.nw hn6
  clear bR_5 bQ_5 bP_5 oC_5 oS_5 K5 r5 hn6
  obtain ⟨cP0, cP1, cP2⟩ := cells3 bP_6
  have lP := heap_lt bP_6
  obtain ⟨cM0, cM1⟩ := cells2 bM_6
  have lM := heap_lt bM_6
  obtain ⟨cR0, cR1, cR2⟩ := cells3 bR_6
  have fR := frozen_of_heap bR_6
  have lR := heap_lt bR_6
  obtain ⟨cQ0, cQ1⟩ := cells2 bQ_6
  have fQ := frozen_of_heap bQ_6
  have lQ := heap_lt bQ_6
  go_wp2_with fail
  refine wp_region_held_drew (S := fun w' => w'.cell? ⟨bP, 0, none⟩ = some (.slice a1 xa.length d1) ∧ w'.cell? ⟨bP, 1, none⟩ = some (.slice a2 xb.length d2) ∧ w'.cell? ⟨bP, 2, none⟩ = some (.slice a3 l.length d3) ∧ w'.cell? ⟨bM, 0, none⟩ = some (.slice aa sa.length da) ∧ w'.cell? ⟨bM, 1, none⟩ = some (.slice ab sb.length db)) (by kernel_rfl) ?_ (fun hHeld => ?_)
  · exact ⟨cP0, cP1, cP2, cM0, cM1⟩
  clear cP0 cP1 cP2 lP cM0 cM1 lM cR0 cR1 cR2 fR lR cQ0 cQ1 fQ lQ
  have hn7 : New w6 w6.drew := (Kp.refl _ _).drew
  generalize w6.drew = w7 at *
  have z7 := hn7.size
  have bR_7 := hn7.bk bR_6
  have bQ_7 := hn7.bk bQ_6
  have bP_7 := hn7.bk bP_6
  have bM_7 := hn7.bk bM_6
  have oC_7 := Lib.hid ((⟨oC_6.out.1.new (by omega) hn7, oC_6.out.2.1.new (by omega) hn7, oC_6.out.2.2.new (by omega) hn7⟩ : _ ∧ _ ∧ _))
  have oS_7 := Lib.hid (oS_6.out.new (by omega) hn7)
  have K7 := K6.trans hn7
  have r7 := r6.nw hn7
  clear bR_6 bQ_6 bP_6 bM_6 oC_6 oS_6 K6 r6 hn7
  obtain ⟨cP0, cP1, cP2⟩ := cells3 bP_7
  have lP := heap_lt bP_7
  obtain ⟨cM0, cM1⟩ := cells2 bM_7
  have lM := heap_lt bM_7
  obtain ⟨cR0, cR1, cR2⟩ := cells3 bR_7
  have fR := frozen_of_heap bR_7
  have lR := heap_lt bR_7
  obtain ⟨cQ0, cQ1⟩ := cells2 bQ_7
  have fQ := frozen_of_heap bQ_7
  have lQ := heap_lt bQ_7
  refine HT 0 rfl ?_
  try simp only [AP]
  refine HT 1 rfl ?_
  try simp only [AP]
  refine HT 3 rfl ?_
  try simp only [AP]
  refine HR 2 rfl fun K hK => ?_
  go_simp
  refine (Mut.l2Mutate w7 br (qS) w.heap.size w7.heap.size a1 a2 a3 d1 d2 d3 xa xb l r7 (oC_7.out.1.mono (by omega) (by omega)) (oC_7.out.2.1.mono (by omega) (by omega)) (oC_7.out.2.2.mono (by omega) (by omega)) (Nat.le_refl _) (by omega) (by omega) (by omega) (by omega) (by omega)).mono ?_
  rintro e w8 ⟨va, vb, vc, ya, yb, m, qU, rfl, hn8, r8, hqU, hA, hB, hC, hl1, hl2, hl3⟩
  have z8 := hn8.size
  have bR_8 := hn8.bo bR_7
  have bQ_8 := hn8.bo bQ_7
  have bP_8 := hn8.bo bP_7
  have bM_8 := hn8.bo bM_7
  have oC_8 := Lib.hid ((⟨oC_7.out.1.kp hn8 (by omega) (fun b e => by omega), oC_7.out.2.1.kp hn8 (by omega) (fun b e => by omega), oC_7.out.2.2.kp hn8 (by omega) (fun b e => by omega)⟩ : _ ∧ _ ∧ _))
  have oS_8 := Lib.hid (oS_7.out.kp hn8 (fun b e => by omega))
  have K8 : New w w8 := New.one K7 hn8 hwbr
  clear cP0 cP1 cP2 lP cM0 cM1 lM cR0 cR1 cR2 fR lR cQ0 cQ1 fQ lQ
  clear bR_7 bQ_7 bP_7 bM_7 oC_7 oS_7 K7 r7 hn8
  obtain ⟨e1, f1, rfl, _⟩ := hA.len
  obtain ⟨e2, f2, rfl, _⟩ := hB.len
  obtain ⟨e3, f3, rfl, _⟩ := hC.len
  have oD_8 := Lib.hid (show _ ∧ _ ∧ _ from ⟨hA, hB, hC⟩)
  clear hA hB hC
  obtain ⟨cP0, cP1, cP2⟩ := cells3 bP_8
  have lP := heap_lt bP_8
  obtain ⟨cM0, cM1⟩ := cells2 bM_8
  have lM := heap_lt bM_8
  obtain ⟨cR0, cR1, cR2⟩ := cells3 bR_8
  have fR := frozen_of_heap bR_8
  have lR := heap_lt bR_8
  obtain ⟨cQ0, cQ1⟩ := cells2 bQ_8
  have fQ := frozen_of_heap bQ_8
  have lQ := heap_lt bQ_8
  refine hK.out _ _ ?_ (fun hHeld2 => ?_)
  · exact ⟨cP0, cP1, cP2, cM0, cM1⟩
  clear hK K hHeld
  have hHeld := hHeld2
  clear hHeld2
  try simp only [AP]
  refine HR 4 rfl fun K hK => ?_
  go_simp
  have hk9 : Kp (fun k => k = w.heap.size) w8 (((w8.setCell ⟨w.heap.size, 0, none⟩ (.slice e1 ya.length f1)).setCell ⟨w.heap.size, 1, none⟩ (.slice e2 yb.length f2)).setCell ⟨w.heap.size, 2, none⟩ (.slice e3 m.length f3)) := (Kp.setCell (Kp.setCell (Kp.setCell (Kp.refl (fun k => k = w.heap.size) _) (.inl rfl) _) (.inl rfl) _) (.inl rfl) _)
  have bR_9 : (((w8.setCell ⟨w.heap.size, 0, none⟩ (.slice e1 ya.length f1)).setCell ⟨w.heap.size, 1, none⟩ (.slice e2 yb.length f2)).setCell ⟨w.heap.size, 2, none⟩ (.slice e3 m.length f3)).heap[w.heap.size]? = some (.cells #[.slice e1 ya.length f1, .slice e2 yb.length f2, .slice e3 m.length f3] 37) := (setCell_heap (setCell_heap (setCell_heap bR_8 _) _) _)
  generalize (((w8.setCell ⟨w.heap.size, 0, none⟩ (.slice e1 ya.length f1)).setCell ⟨w.heap.size, 1, none⟩ (.slice e2 yb.length f2)).setCell ⟨w.heap.size, 2, none⟩ (.slice e3 m.length f3)) = w9 at *
  have z9 := hk9.size
  have bQ_9 := hk9.bo bQ_8
  have bP_9 := hk9.bo bP_8
  have bM_9 := hk9.bo bM_8
  have oC_9 := Lib.hid ((⟨oC_8.out.1.kp hk9 (by omega) (fun b e => by omega), oC_8.out.2.1.kp hk9 (by omega) (fun b e => by omega), oC_8.out.2.2.kp hk9 (by omega) (fun b e => by omega)⟩ : _ ∧ _ ∧ _))
  have oS_9 := Lib.hid (oS_8.out.kp hk9 (fun b e => by omega))
  have oD_9 := Lib.hid ((⟨oD_8.out.1.kp hk9 (by omega) (fun b e => by omega), oD_8.out.2.1.kp hk9 (by omega) (fun b e => by omega), oD_8.out.2.2.kp hk9 (by omega) (fun b e => by omega)⟩ : _ ∧ _ ∧ _))
  have K9 : New w w9 := New.one K8 hk9 (by omega)
  clear cP0 cP1 cP2 lP cM0 cM1 lM cR0 cR1 cR2 fR lR cQ0 cQ1 fQ lQ
  clear bR_8 bQ_8 bP_8 bM_8 oC_8 oS_8 oD_8 K8 hk9
  obtain ⟨cP0, cP1, cP2⟩ := cells3 bP_9
  have lP := heap_lt bP_9
  obtain ⟨cM0, cM1⟩ := cells2 bM_9
  have lM := heap_lt bM_9
  obtain ⟨cR0, cR1, cR2⟩ := cells3 bR_9
  have fR := frozen_of_heap bR_9
  have lR := heap_lt bR_9
  obtain ⟨cQ0, cQ1⟩ := cells2 bQ_9
  have fQ := frozen_of_heap bQ_9
  have lQ := heap_lt bQ_9
  refine hK.out _ _ ?_ (fun hHeld2 => ?_)
  · exact ⟨cP0, cP1, cP2, cM0, cM1⟩
  clear hK K hHeld
  have hHeld := hHeld2
  clear hHeld2
  try simp only [Act.put]
  refine HR 5 rfl fun K hK => ?_
  go_simp
  have hk10 : Kp (fun k => k = w.heap.size + 1) w9 ((w9.setCell ⟨w.heap.size + 1, 0, none⟩ (.slice aa sa.length da)).setCell ⟨w.heap.size + 1, 1, none⟩ (.slice ab sb.length db)) := (Kp.setCell (Kp.setCell (Kp.refl (fun k => k = w.heap.size + 1) _) (.inl rfl) _) (.inl rfl) _)
  have bQ_10 : ((w9.setCell ⟨w.heap.size + 1, 0, none⟩ (.slice aa sa.length da)).setCell ⟨w.heap.size + 1, 1, none⟩ (.slice ab sb.length db)).heap[w.heap.size + 1]? = some (.cells #[.slice aa sa.length da, .slice ab sb.length db] 79) := (setCell_heap (setCell_heap bQ_9 _) _)
  generalize ((w9.setCell ⟨w.heap.size + 1, 0, none⟩ (.slice aa sa.length da)).setCell ⟨w.heap.size + 1, 1, none⟩ (.slice ab sb.length db)) = w10 at *
  have z10 := hk10.size
  have bR_10 := hk10.bo bR_9
  have bP_10 := hk10.bo bP_9
  have bM_10 := hk10.bo bM_9
  have oC_10 := Lib.hid ((⟨oC_9.out.1.kp hk10 (by omega) (fun b e => by omega), oC_9.out.2.1.kp hk10 (by omega) (fun b e => by omega), oC_9.out.2.2.kp hk10 (by omega) (fun b e => by omega)⟩ : _ ∧ _ ∧ _))
  have oS_10 := Lib.hid (oS_9.out.kp hk10 (fun b e => by omega))
  have oD_10 := Lib.hid ((⟨oD_9.out.1.kp hk10 (by omega) (fun b e => by omega), oD_9.out.2.1.kp hk10 (by omega) (fun b e => by omega), oD_9.out.2.2.kp hk10 (by omega) (fun b e => by omega)⟩ : _ ∧ _ ∧ _))
  have K10 : New w w10 := New.one K9 hk10 (by omega)
  clear cP0 cP1 cP2 lP cM0 cM1 lM cR0 cR1 cR2 fR lR cQ0 cQ1 fQ lQ
  clear bR_9 bQ_9 bP_9 bM_9 oC_9 oS_9 oD_9 K9 hk10
  obtain ⟨cP0, cP1, cP2⟩ := cells3 bP_10
  have lP := heap_lt bP_10
  obtain ⟨cM0, cM1⟩ := cells2 bM_10
  have lM := heap_lt bM_10
  obtain ⟨cR0, cR1, cR2⟩ := cells3 bR_10
  have fR := frozen_of_heap bR_10
  have lR := heap_lt bR_10
  obtain ⟨cQ0, cQ1⟩ := cells2 bQ_10
  have fQ := frozen_of_heap bQ_10
  have lQ := heap_lt bQ_10
  refine hK.out _ _ ?_ (fun hHeld2 => ?_)
  · exact ⟨cP0, cP1, cP2, cM0, cM1⟩
  clear hK K hHeld
  have hHeld := hHeld2
  clear hHeld2
  try simp only [Act.put]
  refine wpAnyH_done (by kernel_rfl) ?_ _
  go_wp2
  exact bodyPost_ret (results_cell2 rfl _ _ _ _ _ _ _ _ _ _ _ _ rfl rfl bR_10 bQ_10 Try.underlying37 Try.underlying79 rfl rfl (by kernel_rfl) (by kernel_rfl)) rfl ⟨_, _, _, ya, yb, m, _, _, sa, sb, rfl, K10, oD_10.out.1.mono (lo' := w.heap.size) (hi' := w10.heap.size) (by omega) (by omega), oD_10.out.2.1.mono (lo' := w.heap.size) (hi' := w10.heap.size) (by omega) (by omega), oD_10.out.2.2.mono (lo' := w.heap.size) (hi' := w10.heap.size) (by omega) (by omega), oS_10.out.mono (lo' := w.heap.size) (hi' := w10.heap.size) (by omega) (by omega), by omega, by omega, by omega, fun y hy => by have := hlS.out y hy; omega⟩
set_option maxHeartbeats 4000000 in
theorem drawPub (w : World) (a : Option Addr) (len cap : Nat) (h : Src w a len cap) : Calls Try.prog 40 #[.slice a len cap] w (GotPM w) := by
  have N0 : New w ((w.alloc (.cells #[.slice none 0 0, .slice none 0 0, .slice none 0 0] 37)).alloc (.cells #[.slice none 0 0, .slice none 0 0] 79)) := ((Kp.refl _ _).alloc _).alloc _
  have bR_0 : ((w.alloc (.cells #[.slice none 0 0, .slice none 0 0, .slice none 0 0] 37)).alloc (.cells #[.slice none 0 0, .slice none 0 0] 79)).heap[w.heap.size]? = some (.cells #[.slice none 0 0, .slice none 0 0, .slice none 0 0] 37) := heap_old (alloc_heap _ _)
  have bQ_0 : ((w.alloc (.cells #[.slice none 0 0, .slice none 0 0, .slice none 0 0] 37)).alloc (.cells #[.slice none 0 0, .slice none 0 0] 79)).heap[w.heap.size + 1]? = some (.cells #[.slice none 0 0, .slice none 0 0] 79) := heap_at (by simp)
  have z0 : w.heap.size + 1 < ((w.alloc (.cells #[.slice none 0 0, .slice none 0 0, .slice none 0 0] 37)).alloc (.cells #[.slice none 0 0, .slice none 0 0] 79)).heap.size := by simp
  have hs := Lib.hid (h.keep N0)
  clear h
  go_enter Try.func40, Try.ntmps40
  go_upto_region 1 with fail
  generalize ((w.alloc (.cells #[.slice none 0 0, .slice none 0 0, .slice none 0 0] 37)).alloc (.cells #[.slice none 0 0, .slice none 0 0] 79)) = w0 at *
  go_wp2_with fail
  refine (drawMem w0 _ _ _ hs.out).mono ?_
  rintro e w1 ⟨va, vb, vc, ya, yb, m, ma, mb, za, zb, rfl, hn1, hA, hB, hC, hM, hl, hl1, hl2, hl3⟩
  obtain ⟨e1, f1, rfl, _⟩ := hA.len
  obtain ⟨e2, f2, rfl, _⟩ := hB.len
  obtain ⟨e3, f3, rfl, _⟩ := hC.len
  obtain ⟨⟨g4, h4, rfl⟩, g5, h5, rfl⟩ := hM.lens
  have z1 := hn1.size
  have bR := heap_new hn1 bR_0
  have bQ := heap_new hn1 bQ_0
  have oA := Lib.hid hA
  have oB := Lib.hid hB
  have oC := Lib.hid hC
  have oM := Lib.hid hM
  have N1 := N0.trans hn1
  have rf := frozen_of_heap bR
  have rl := heap_lt bR
  have qf := frozen_of_heap bQ
  have ql := heap_lt bQ
  obtain ⟨c0, c1, c2⟩ := cells3 bR
  obtain ⟨d0, d1⟩ := cells2 bQ
  clear hA hB hC hM N0 hn1 bR_0 bQ_0 hs
  have hlh := Lib.hid hl3
  clear hl3
  go_wp2
  have hk1 := setMany_kp (w.heap.size) [.slice e1 ya.length f1, .slice e2 yb.length f2, .slice e3 m.length f3] w1 0
  have zs1 := setMany_size (w.heap.size) [.slice e1 ya.length f1, .slice e2 yb.length f2, .slice e3 m.length f3] w1 0
  have hR1 := setMany_row [.slice e1 ya.length f1, .slice e2 yb.length f2, .slice e3 m.length f3] bR rfl
  have hQ1 := setMany_other [.slice e1 ya.length f1, .slice e2 yb.length f2, .slice e3 m.length f3] 0 bQ (b := w.heap.size) (by omega)
  have hk2 := setMany_kp (w.heap.size + 1) [.slice g4 za.length h4, .slice g5 zb.length h5] (setMany w1 (w.heap.size) 0 [.slice e1 ya.length f1, .slice e2 yb.length f2, .slice e3 m.length f3]) 0
  have zs2 := setMany_size (w.heap.size + 1) [.slice g4 za.length h4, .slice g5 zb.length h5] (setMany w1 (w.heap.size) 0 [.slice e1 ya.length f1, .slice e2 yb.length f2, .slice e3 m.length f3]) 0
  have hQ := setMany_row [.slice g4 za.length h4, .slice g5 zb.length h5] hQ1 rfl
  have hR := setMany_other [.slice g4 za.length h4, .slice g5 zb.length h5] 0 hR1 (b := w.heap.size + 1) (by omega)
  exact bodyPost_ret (results_cell2 rfl _ _ _ _ _ _ _ _ _ _ _ _ rfl rfl hR hQ Try.underlying37 Try.underlying79 rfl rfl (by kernel_rfl) (by kernel_rfl)) rfl ⟨_, _, _, ya, yb, m, _, _, za, zb, rfl, New.one (New.one N1 hk1 (by omega)) hk2 (by omega), ((oA.out.kp hk1 (by omega) (fun b e => .inl (by subst e; omega))).kp hk2 (Nat.le_of_eq zs1.symm) (fun b e => .inl (by subst e; omega))).mono (by omega) (Nat.le_of_eq (zs1.symm.trans zs2.symm)), ((oB.out.kp hk1 (by omega) (fun b e => .inl (by subst e; omega))).kp hk2 (Nat.le_of_eq zs1.symm) (fun b e => .inl (by subst e; omega))).mono (by omega) (Nat.le_of_eq (zs1.symm.trans zs2.symm)), ((oC.out.kp hk1 (by omega) (fun b e => .inl (by subst e; omega))).kp hk2 (Nat.le_of_eq zs1.symm) (fun b e => .inl (by subst e; omega))).mono (by omega) (Nat.le_of_eq (zs1.symm.trans zs2.symm)), ((oM.out.kp hk1 (fun b e => .inl (by subst e; omega))).kp hk2 (fun b e => .inl (by subst e; omega))).mono (by omega) (Nat.le_of_eq (zs1.symm.trans zs2.symm)), hl, hl1, hl2, hlh.out⟩
set_option maxHeartbeats 4000000 in
theorem drawTru (w : World) (a : Option Addr) (len cap : Nat) (h : Src w a len cap) : Calls Try.prog 45 #[.slice a len cap] w (GotPM w) := by
  have N0 : New w ((w.alloc (.cells #[.slice none 0 0, .slice none 0 0, .slice none 0 0] 37)).alloc (.cells #[.slice none 0 0, .slice none 0 0] 79)) := ((Kp.refl _ _).alloc _).alloc _
  have bR_0 : ((w.alloc (.cells #[.slice none 0 0, .slice none 0 0, .slice none 0 0] 37)).alloc (.cells #[.slice none 0 0, .slice none 0 0] 79)).heap[w.heap.size]? = some (.cells #[.slice none 0 0, .slice none 0 0, .slice none 0 0] 37) := heap_old (alloc_heap _ _)
  have bQ_0 : ((w.alloc (.cells #[.slice none 0 0, .slice none 0 0, .slice none 0 0] 37)).alloc (.cells #[.slice none 0 0, .slice none 0 0] 79)).heap[w.heap.size + 1]? = some (.cells #[.slice none 0 0, .slice none 0 0] 79) := heap_at (by simp)
  have z0 : w.heap.size + 1 < ((w.alloc (.cells #[.slice none 0 0, .slice none 0 0, .slice none 0 0] 37)).alloc (.cells #[.slice none 0 0, .slice none 0 0] 79)).heap.size := by simp
  have hs := Lib.hid (h.keep N0)
  clear h
  go_enter Try.func45, Try.ntmps45
  go_upto_region 1 with fail
  generalize ((w.alloc (.cells #[.slice none 0 0, .slice none 0 0, .slice none 0 0] 37)).alloc (.cells #[.slice none 0 0, .slice none 0 0] 79)) = w0 at *
  go_wp2_with fail
  refine (drawMem w0 _ _ _ hs.out).mono ?_
  rintro e w1 ⟨va, vb, vc, ya, yb, m, ma, mb, za, zb, rfl, hn1, hA, hB, hC, hM, hl, hl1, hl2, hl3⟩
  obtain ⟨e1, f1, rfl, _⟩ := hA.len
  obtain ⟨e2, f2, rfl, _⟩ := hB.len
  obtain ⟨e3, f3, rfl, _⟩ := hC.len
  obtain ⟨⟨g4, h4, rfl⟩, g5, h5, rfl⟩ := hM.lens
  have z1 := hn1.size
  have bR := heap_new hn1 bR_0
  have bQ := heap_new hn1 bQ_0
  have oA := Lib.hid hA
  have oB := Lib.hid hB
  have oC := Lib.hid hC
  have oM := Lib.hid hM
  have N1 := N0.trans hn1
  have rf := frozen_of_heap bR
  have rl := heap_lt bR
  have qf := frozen_of_heap bQ
  have ql := heap_lt bQ
  obtain ⟨c0, c1, c2⟩ := cells3 bR
  obtain ⟨d0, d1⟩ := cells2 bQ
  clear hA hB hC hM N0 hn1 bR_0 bQ_0 hs
  have hlh := Lib.hid hl3
  clear hl3
  go_wp2
  have hk1 := setMany_kp (w.heap.size) [.slice e1 ya.length f1, .slice e2 yb.length f2, .slice e3 m.length f3] w1 0
  have zs1 := setMany_size (w.heap.size) [.slice e1 ya.length f1, .slice e2 yb.length f2, .slice e3 m.length f3] w1 0
  have hR1 := setMany_row [.slice e1 ya.length f1, .slice e2 yb.length f2, .slice e3 m.length f3] bR rfl
  have hQ1 := setMany_other [.slice e1 ya.length f1, .slice e2 yb.length f2, .slice e3 m.length f3] 0 bQ (b := w.heap.size) (by omega)
  have hk2 := setMany_kp (w.heap.size + 1) [.slice g4 za.length h4, .slice g5 zb.length h5] (setMany w1 (w.heap.size) 0 [.slice e1 ya.length f1, .slice e2 yb.length f2, .slice e3 m.length f3]) 0
  have zs2 := setMany_size (w.heap.size + 1) [.slice g4 za.length h4, .slice g5 zb.length h5] (setMany w1 (w.heap.size) 0 [.slice e1 ya.length f1, .slice e2 yb.length f2, .slice e3 m.length f3]) 0
  have hQ := setMany_row [.slice g4 za.length h4, .slice g5 zb.length h5] hQ1 rfl
  have hR := setMany_other [.slice g4 za.length h4, .slice g5 zb.length h5] 0 hR1 (b := w.heap.size + 1) (by omega)
  exact bodyPost_ret (results_cell2 rfl _ _ _ _ _ _ _ _ _ _ _ _ rfl rfl hR hQ Try.underlying37 Try.underlying79 rfl rfl (by kernel_rfl) (by kernel_rfl)) rfl ⟨_, _, _, ya, yb, m, _, _, za, zb, rfl, New.one (New.one N1 hk1 (by omega)) hk2 (by omega), ((oA.out.kp hk1 (by omega) (fun b e => .inl (by subst e; omega))).kp hk2 (Nat.le_of_eq zs1.symm) (fun b e => .inl (by subst e; omega))).mono (by omega) (Nat.le_of_eq (zs1.symm.trans zs2.symm)), ((oB.out.kp hk1 (by omega) (fun b e => .inl (by subst e; omega))).kp hk2 (Nat.le_of_eq zs1.symm) (fun b e => .inl (by subst e; omega))).mono (by omega) (Nat.le_of_eq (zs1.symm.trans zs2.symm)), ((oC.out.kp hk1 (by omega) (fun b e => .inl (by subst e; omega))).kp hk2 (Nat.le_of_eq zs1.symm) (fun b e => .inl (by subst e; omega))).mono (by omega) (Nat.le_of_eq (zs1.symm.trans zs2.symm)), ((oM.out.kp hk1 (fun b e => .inl (by subst e; omega))).kp hk2 (fun b e => .inl (by subst e; omega))).mono (by omega) (Nat.le_of_eq (zs1.symm.trans zs2.symm)), hl, hl1, hl2, hlh.out⟩
end Go.Proofs.Ytckikiaockkmbaa.DrawR
