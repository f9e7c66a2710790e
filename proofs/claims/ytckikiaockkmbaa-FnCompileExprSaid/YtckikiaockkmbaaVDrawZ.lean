/- Draws of expressions: DrawExprSame, DrawExprValid, DrawCompileExpr. No conditions. -/
import Derived.Test.YtckikiaockkmbaaVDrawY
import Derived.Test.YtckikiaockkmbaaVP1
namespace Go.Proofs.Ytckikiaockkmbaa.DrawZ
open Go.RowKit Kit Draw DrawX MarkC
set_option linter.unusedVariables false
theorem results_cell2 {P : Program} {fn : Func} {p q : Tmp} {ty ty2 : TypeId} (h : fn.results = #[.cell p ty, .cell q ty2]) (tmps : Array Value) (w : World) (g g2 : Nat) (t t2 : TypeId) (cs cs2 : Array Value) (fr fr2 : Nat × Nat) (d d2 : TypeDesc)
    (hp : tmps.getD p undef = .pointer (some ⟨g, 0, none⟩)) (hq : tmps.getD q undef = .pointer (some ⟨g2, 0, none⟩)) (hg : w.heap[g]? = some (.cells cs t fr)) (hg2 : w.heap[g2]? = some (.cells cs2 t2 fr2))
    (hu : P.underlying ty = some d) (hu2 : P.underlying ty2 = some d2) (hd : (match d with | .struct _ | .array _ _ => true | _ => false) = true) (hd2 : (match d2 with | .struct _ | .array _ _ => true | _ => false) = true) (hi : (P.info? ty).map (·.size) = some cs.size) (hi2 : (P.info? ty2).map (·.size) = some cs2.size) :
    (results fn tmps).run P w = .ok (.tuple #[.agg cs, .agg cs2]) w := by
  have hp' : tmps[p]?.getD undef = .pointer (some ⟨g, 0, none⟩) := by simpa using hp
  have hq' : tmps[q]?.getD undef = .pointer (some ⟨g2, 0, none⟩) := by simpa using hq
  simp [results, h, hp', hq', asAddr, run_loadVar_row w g t ty cs fr d hg hu hd hi, run_loadVar_row w g2 t2 ty2 cs2 fr2 d2 hg2 hu2 hd2 hi2]
/-- two expressions -/
def GotXX (w : World) (e : Ending) (w' : World) : Prop := ∃ (k v : Int) (s : Value) (ks : List Ex) (k' v' : Int) (s' : Value) (ks' : List Ex), e = .returned (.tuple #[.agg #[.int .i64 k, .int .i64 v, s], .agg #[.int .i64 k', .int .i64 v', s']]) ∧ New w w' ∧ KidsR w' w.heap.size w'.heap.size s ks ∧ KidsR w' w.heap.size w'.heap.size s' ks' ∧ Ex.sizes ks ≤ 1000 ∧ Ex.sizes ks' ≤ 1000
/-- a program and an expression -/
def GotPE (w : World) (e : Ending) (w' : World) : Prop := ∃ (va vb vc : Value) (ya yb : List Int) (m : List St) (k v : Int) (s : Value) (ks : List Ex), e = .returned (.tuple #[.agg #[va, vb, vc], .agg #[.int .i64 k, .int .i64 v, s]]) ∧ New w w' ∧ IntsR w' w.heap.size w'.heap.size va ya ∧ IntsR w' w.heap.size w'.heap.size vb yb ∧ StsR w' w.heap.size w'.heap.size vc m ∧ KidsR w' w.heap.size w'.heap.size s ks ∧ St.sizes m ≤ 608400 ∧ Ex.sizes ks ≤ 1000
set_option maxHeartbeats 16000000 in
set_option maxRecDepth 100000 in
theorem drawExprValid (w : World) (a : Option Addr) (len cap : Nat) (h : Src w a len cap) : Calls Try.prog 85 #[.slice a len cap] w (GotPE w) := by
  go_enter Try.func85, Try.ntmps85
  go_upto_region 1 with fail
  have N0 : New w ((w.alloc (.cells #[.slice none 0 0, .slice none 0 0, .slice none 0 0] 37)).alloc (.cells #[.int .i64 0, .int .i64 0, .slice none 0 0] 58)) := ((Kp.refl _ _).alloc _).alloc _
  have bR_0 : ((w.alloc (.cells #[.slice none 0 0, .slice none 0 0, .slice none 0 0] 37)).alloc (.cells #[.int .i64 0, .int .i64 0, .slice none 0 0] 58)).heap[w.heap.size]? = some (.cells #[.slice none 0 0, .slice none 0 0, .slice none 0 0] 37) := heap_old (alloc_heap _ _)
  have bQ_0 : ((w.alloc (.cells #[.slice none 0 0, .slice none 0 0, .slice none 0 0] 37)).alloc (.cells #[.int .i64 0, .int .i64 0, .slice none 0 0] 58)).heap[w.heap.size + 1]? = some (.cells #[.int .i64 0, .int .i64 0, .slice none 0 0] 58) := heap_at (by simp)
  have z0 : w.heap.size + 1 < ((w.alloc (.cells #[.slice none 0 0, .slice none 0 0, .slice none 0 0] 37)).alloc (.cells #[.int .i64 0, .int .i64 0, .slice none 0 0] 58)).heap.size := by simp
  generalize ((w.alloc (.cells #[.slice none 0 0, .slice none 0 0, .slice none 0 0] 37)).alloc (.cells #[.int .i64 0, .int .i64 0, .slice none 0 0] 58)) = w0 at *
  have s0 := h.keep N0
  go_wp2_with fail
  refine (Draw.l17Open w0 _ _ _ s0.1 s0.2.1 s0.2.2).mono ?_
  rintro e w1 ⟨rfl, hn1, r1⟩
  have z1 := hn1.size
  have bR_1 := heap_new hn1 bR_0
  have bQ_1 := heap_new hn1 bQ_0
  have K1 := N0.trans hn1
  have hwbr0 : w.heap.size + 2 ≤ w0.heap.size := by omega
  generalize hbr : w0.heap.size = br at *
  have hwbr : w.heap.size ≤ br := by omega
  clear hbr N0 hn1 bR_0 bQ_0 z0 s0 h
  go_wp2_with fail
  refine (DrawG.l2Program w1 br 0 r1 (by omega)).mono ?_
  rintro e w2 ⟨a1, a2, a3, d1, d2, d3, xa, xb, l, q, rfl, hn2, r2, hq, hA, hB, hC, hxa, hxb, hx, -, -⟩
  have hbl : br < w1.heap.size := r1.lt
  have hll := St.length_sizes l
  have z2 := hn2.size
  have bR_2 := hn2.bo bR_1
  have bQ_2 := hn2.bo bQ_1
  have K2 : New w w2 := New.one K1 hn2 hwbr
  clear bR_1 bQ_1 K1 r1 hn2
  have oC_2 := Lib.hid (show _ ∧ _ ∧ _ from ⟨hA, hB, hC⟩)
  clear hA hB hC
  obtain ⟨hn3, y3, bP_3⟩ := newb w2 (.cells #[.slice a1 xa.length d1, .slice a2 xb.length d2, .slice a3 l.length d3] 37)
  go_upto_region 3 with fail
  have yy3 : br < w2.heap.size := r2.lt
  generalize hbP : w2.heap.size = bP at bP_3 y3 yy3 ⊢
  generalize (w2.alloc (.cells #[.slice a1 xa.length d1, .slice a2 xb.length d2, .slice a3 l.length d3] 37)) = w3 at *
  have z3 := hn3.size
  have bR_3 := hn3.bk bR_2
  have bQ_3 := hn3.bk bQ_2
  have oC_3 := Lib.hid ((⟨oC_2.out.1.new (by omega) hn3, oC_2.out.2.1.new (by omega) hn3, oC_2.out.2.2.new (by omega) hn3⟩ : _ ∧ _ ∧ _))
  have K3 := K2.trans hn3
  have r3 := r2.nw hn3
  clear bR_2 bQ_2 oC_2 K2 r2 hn3
  obtain ⟨cP0, cP1, cP2⟩ := cells3 bP_3
  have lP := heap_lt bP_3
  go_wp2_with fail
  refine (DrawX.l2Small a1 a2 a3 xa.length d1 xb.length d2 l.length d3 (by omega) (by omega) w3 br (q) r3 (by omega)).mono ?_
  rintro e w4 ⟨kS, vS, aS, tS, lS, qS, rfl, hn4, r4, hqS, hkS, hsS, bS1, bS2, bS3, bS4⟩
  have z4 := hn4.size
  have bR_4 := hn4.bo bR_3
  have bQ_4 := hn4.bo bQ_3
  have bP_4 := hn4.bo bP_3
  have oC_4 := Lib.hid ((⟨oC_3.out.1.kp hn4 (by omega) (fun b e => by omega), oC_3.out.2.1.kp hn4 (by omega) (fun b e => by omega), oC_3.out.2.2.kp hn4 (by omega) (fun b e => by omega)⟩ : _ ∧ _ ∧ _))
  have K4 : New w w4 := New.one K3 hn4 hwbr
  clear cP0 cP1 cP2 lP
  clear bR_3 bQ_3 bP_3 oC_3 K3 r3 hn4
  have oS_4 := Lib.hid hkS
  clear hkS
  obtain ⟨hn5, y5, bE_5⟩ := newb w4 (.cells #[.int .i64 kS, .int .i64 vS, .slice aS lS.length tS] 58)
  go_upto_region 4 with fail
  have yy5 : br < w4.heap.size := r4.lt
  generalize hbE : w4.heap.size = bE at bE_5 y5 yy5 ⊢
  generalize (w4.alloc (.cells #[.int .i64 kS, .int .i64 vS, .slice aS lS.length tS] 58)) = w5 at *
  have z5 := hn5.size
  have bR_5 := hn5.bk bR_4
  have bQ_5 := hn5.bk bQ_4
  have bP_5 := hn5.bk bP_4
  have oC_5 := Lib.hid ((⟨oC_4.out.1.new (by omega) hn5, oC_4.out.2.1.new (by omega) hn5, oC_4.out.2.2.new (by omega) hn5⟩ : _ ∧ _ ∧ _))
  have oS_5 := Lib.hid (oS_4.out.new (by omega) hn5)
  have K5 := K4.trans hn5
  have r5 := r4.nw hn5
  clear bR_4 bQ_4 bP_4 oC_4 oS_4 K4 r4 hn5
  go_wp2_with fail
  refine (pick w5 br (qS) _ r5 (by omega)).mono ?_
  rintro e w6 ⟨u, rfl, u0, u1, u2, hn6, r6⟩
  have z6 := hn6.size
  have bR_6 := hn6.bo bR_5
  have bQ_6 := hn6.bo bQ_5
  have bP_6 := hn6.bo bP_5
  have bE_6 := hn6.bo bE_5
  have oC_6 := Lib.hid ((⟨oC_5.out.1.kp hn6 (by omega) (fun b e => by omega), oC_5.out.2.1.kp hn6 (by omega) (fun b e => by omega), oC_5.out.2.2.kp hn6 (by omega) (fun b e => by omega)⟩ : _ ∧ _ ∧ _))
  have oS_6 := Lib.hid (oS_5.out.kp hn6 (by omega) (fun b e => by omega))
  have K6 : New w w6 := New.one K5 hn6 hwbr
  clear bR_5 bQ_5 bP_5 bE_5 oC_5 oS_5 K5 r5 hn6
  clear u1 u2
  by_cases hu0 : u = 0
  · subst hu0
    obtain ⟨cE0, cE1, cE2⟩ := cells3 bE_6
    have fE := frozen_of_heap bE_6
    have lE := heap_lt bE_6
    go_wp2_with fail
    have hNr := r6.lt
    refine (num _ br (qS + 1) _ 4 _ (fun x => -1 ≤ x ∧ x ≤ 256) (r6.keep (S := fun _ => False) ((Kp.refl _ _).alloc _) (fun _ f => f.elim)) (by omega) (by omega) (by omega) (by omega) ?_).mono ?_
    · intro i hi
      match i, hi with
      | 0, _ => exact ⟨_, by decide, World.cell?_alloc_new _ _ _ _⟩
      | 1, _ => exact ⟨_, by decide, World.cell?_alloc_new _ _ _ _⟩
      | 2, _ => exact ⟨_, by decide, World.cell?_alloc_new _ _ _ _⟩
      | 3, _ => exact ⟨_, by decide, World.cell?_alloc_new _ _ _ _⟩
    rintro e w7 ⟨y, rfl, ⟨y0, y1⟩, k1, r7⟩
    have hn7 : One br w6 w7 := ((Kp.refl (fun k => k = br) w6).alloc _).trans k1
    clear k1 hNr
    have z7 := hn7.size
    have bR_7 := hn7.bo bR_6
    have bQ_7 := hn7.bo bQ_6
    have bP_7 := hn7.bo bP_6
    have bE_7 := hn7.bo bE_6
    have oC_7 := Lib.hid ((⟨oC_6.out.1.kp hn7 (by omega) (fun b e => by omega), oC_6.out.2.1.kp hn7 (by omega) (fun b e => by omega), oC_6.out.2.2.kp hn7 (by omega) (fun b e => by omega)⟩ : _ ∧ _ ∧ _))
    have oS_7 := Lib.hid (oS_6.out.kp hn7 (by omega) (fun b e => by omega))
    have K7 : New w w7 := New.one K6 hn7 hwbr
    clear cE0 cE1 cE2 fE lE
    clear bR_6 bQ_6 bP_6 bE_6 oC_6 oS_6 K6 r6 hn7
    clear y0 y1
    obtain ⟨cE0, cE1, cE2⟩ := cells3 bE_7
    have fE := frozen_of_heap bE_7
    have lE := heap_lt bE_7
    go_upto_region 11 with fail
    have hk8 : Kp (fun k => k = bE) w7 (w7.setCell ⟨bE, 1, none⟩ (.int .i64 y)) := (Kp.setCell (Kp.refl (fun k => k = bE) _) (.inl rfl) _)
    have bE_8 : (w7.setCell ⟨bE, 1, none⟩ (.int .i64 y)).heap[bE]? = some (.cells #[.int .i64 kS, .int .i64 y, .slice aS lS.length tS] 58) := (setCell_heap bE_7 _)
    generalize (w7.setCell ⟨bE, 1, none⟩ (.int .i64 y)) = w8 at *
    have z8 := hk8.size
    have bR_8 := hk8.bo bR_7
    have bQ_8 := hk8.bo bQ_7
    have bP_8 := hk8.bo bP_7
    have oC_8 := Lib.hid ((⟨oC_7.out.1.kp hk8 (by omega) (fun b e => by omega), oC_7.out.2.1.kp hk8 (by omega) (fun b e => by omega), oC_7.out.2.2.kp hk8 (by omega) (fun b e => by omega)⟩ : _ ∧ _ ∧ _))
    have oS_8 := Lib.hid (oS_7.out.kp hk8 (by omega) (fun b e => by omega))
    have K8 : New w w8 := New.one K7 hk8 (by omega)
    have r8 := r7.kp hk8
    clear cE0 cE1 cE2 fE lE
    clear bR_7 bQ_7 bP_7 bE_7 oC_7 oS_7 K7 r7 hk8
    obtain ⟨cP0, cP1, cP2⟩ := cells3 bP_8
    have lP := heap_lt bP_8
    obtain ⟨cE0, cE1, cE2⟩ := cells3 bE_8
    have lE := heap_lt bE_8
    obtain ⟨cR0, cR1, cR2⟩ := cells3 bR_8
    have fR := frozen_of_heap bR_8
    have lR := heap_lt bR_8
    obtain ⟨cQ0, cQ1, cQ2⟩ := cells3 bQ_8
    have fQ := frozen_of_heap bQ_8
    have lQ := heap_lt bQ_8
    go_wp2_with fail
    refine wp_region_held_drew (S := fun w' => w'.cell? ⟨bP, 0, none⟩ = some (.slice a1 xa.length d1) ∧ w'.cell? ⟨bP, 1, none⟩ = some (.slice a2 xb.length d2) ∧ w'.cell? ⟨bP, 2, none⟩ = some (.slice a3 l.length d3) ∧ w'.cell? ⟨bE, 0, none⟩ = some (.int .i64 kS) ∧ w'.cell? ⟨bE, 1, none⟩ = some (.int .i64 y) ∧ w'.cell? ⟨bE, 2, none⟩ = some (.slice aS lS.length tS)) (by kernel_rfl) ?_ (fun hHeld => ?_)
    · exact ⟨cP0, cP1, cP2, cE0, cE1, cE2⟩
    clear cP0 cP1 cP2 lP cE0 cE1 cE2 lE cR0 cR1 cR2 fR lR cQ0 cQ1 cQ2 fQ lQ
    have hn9 : New w8 w8.drew := (Kp.refl _ _).drew
    generalize w8.drew = w9 at *
    have z9 := hn9.size
    have bR_9 := hn9.bk bR_8
    have bQ_9 := hn9.bk bQ_8
    have bP_9 := hn9.bk bP_8
    have bE_9 := hn9.bk bE_8
    have oC_9 := Lib.hid ((⟨oC_8.out.1.new (by omega) hn9, oC_8.out.2.1.new (by omega) hn9, oC_8.out.2.2.new (by omega) hn9⟩ : _ ∧ _ ∧ _))
    have oS_9 := Lib.hid (oS_8.out.new (by omega) hn9)
    have K9 := K8.trans hn9
    have r9 := r8.nw hn9
    clear bR_8 bQ_8 bP_8 bE_8 oC_8 oS_8 K8 r8 hn9
    obtain ⟨cP0, cP1, cP2⟩ := cells3 bP_9
    have lP := heap_lt bP_9
    obtain ⟨cE0, cE1, cE2⟩ := cells3 bE_9
    have lE := heap_lt bE_9
    obtain ⟨cR0, cR1, cR2⟩ := cells3 bR_9
    have fR := frozen_of_heap bR_9
    have lR := heap_lt bR_9
    obtain ⟨cQ0, cQ1, cQ2⟩ := cells3 bQ_9
    have fQ := frozen_of_heap bQ_9
    have lQ := heap_lt bQ_9
    refine HT 0 rfl ?_
    try simp only [AP]
    refine HT 1 rfl ?_
    try simp only [AP]
    refine HT 3 rfl ?_
    try simp only [AP]
    refine HR 2 rfl fun K hK => ?_
    go_simp
    refine (Mut.l2Mutate w9 br (qS + 1 + 1) w.heap.size w9.heap.size a1 a2 a3 d1 d2 d3 xa xb l r9 (oC_9.out.1.mono (by omega) (by omega)) (oC_9.out.2.1.mono (by omega) (by omega)) (oC_9.out.2.2.mono (by omega) (by omega)) (Nat.le_refl _) (by omega) (by omega) (by omega) (by omega) (by omega)).mono ?_
    rintro e w10 ⟨va, vb, vc, ya, yb, m, qU, rfl, hn10, r10, hqU, hA, hB, hC, hl1, hl2, hl3⟩
    have z10 := hn10.size
    have bR_10 := hn10.bo bR_9
    have bQ_10 := hn10.bo bQ_9
    have bP_10 := hn10.bo bP_9
    have bE_10 := hn10.bo bE_9
    have oC_10 := Lib.hid ((⟨oC_9.out.1.kp hn10 (by omega) (fun b e => by omega), oC_9.out.2.1.kp hn10 (by omega) (fun b e => by omega), oC_9.out.2.2.kp hn10 (by omega) (fun b e => by omega)⟩ : _ ∧ _ ∧ _))
    have oS_10 := Lib.hid (oS_9.out.kp hn10 (by omega) (fun b e => by omega))
    have K10 : New w w10 := New.one K9 hn10 hwbr
    clear cP0 cP1 cP2 lP cE0 cE1 cE2 lE cR0 cR1 cR2 fR lR cQ0 cQ1 cQ2 fQ lQ
    clear bR_9 bQ_9 bP_9 bE_9 oC_9 oS_9 K9 r9 hn10
    obtain ⟨e1, f1, rfl, _⟩ := hA.len
    obtain ⟨e2, f2, rfl, _⟩ := hB.len
    obtain ⟨e3, f3, rfl, _⟩ := hC.len
    have oD_10 := Lib.hid (show _ ∧ _ ∧ _ from ⟨hA, hB, hC⟩)
    clear hA hB hC
    obtain ⟨cP0, cP1, cP2⟩ := cells3 bP_10
    have lP := heap_lt bP_10
    obtain ⟨cE0, cE1, cE2⟩ := cells3 bE_10
    have lE := heap_lt bE_10
    obtain ⟨cR0, cR1, cR2⟩ := cells3 bR_10
    have fR := frozen_of_heap bR_10
    have lR := heap_lt bR_10
    obtain ⟨cQ0, cQ1, cQ2⟩ := cells3 bQ_10
    have fQ := frozen_of_heap bQ_10
    have lQ := heap_lt bQ_10
    refine hK.out _ _ ?_ (fun hHeld2 => ?_)
    · exact ⟨cP0, cP1, cP2, cE0, cE1, cE2⟩
    clear hK K hHeld
    have hHeld := hHeld2
    clear hHeld2
    try simp only [AP]
    refine HR 4 rfl fun K hK => ?_
    go_simp
    have hk11 : Kp (fun k => k = w.heap.size) w10 (((w10.setCell ⟨w.heap.size, 0, none⟩ (.slice e1 ya.length f1)).setCell ⟨w.heap.size, 1, none⟩ (.slice e2 yb.length f2)).setCell ⟨w.heap.size, 2, none⟩ (.slice e3 m.length f3)) := (Kp.setCell (Kp.setCell (Kp.setCell (Kp.refl (fun k => k = w.heap.size) _) (.inl rfl) _) (.inl rfl) _) (.inl rfl) _)
    have bR_11 : (((w10.setCell ⟨w.heap.size, 0, none⟩ (.slice e1 ya.length f1)).setCell ⟨w.heap.size, 1, none⟩ (.slice e2 yb.length f2)).setCell ⟨w.heap.size, 2, none⟩ (.slice e3 m.length f3)).heap[w.heap.size]? = some (.cells #[.slice e1 ya.length f1, .slice e2 yb.length f2, .slice e3 m.length f3] 37) := (setCell_heap (setCell_heap (setCell_heap bR_10 _) _) _)
    generalize (((w10.setCell ⟨w.heap.size, 0, none⟩ (.slice e1 ya.length f1)).setCell ⟨w.heap.size, 1, none⟩ (.slice e2 yb.length f2)).setCell ⟨w.heap.size, 2, none⟩ (.slice e3 m.length f3)) = w11 at *
    have z11 := hk11.size
    have bQ_11 := hk11.bo bQ_10
    have bP_11 := hk11.bo bP_10
    have bE_11 := hk11.bo bE_10
    have oC_11 := Lib.hid ((⟨oC_10.out.1.kp hk11 (by omega) (fun b e => by omega), oC_10.out.2.1.kp hk11 (by omega) (fun b e => by omega), oC_10.out.2.2.kp hk11 (by omega) (fun b e => by omega)⟩ : _ ∧ _ ∧ _))
    have oS_11 := Lib.hid (oS_10.out.kp hk11 (by omega) (fun b e => by omega))
    have oD_11 := Lib.hid ((⟨oD_10.out.1.kp hk11 (by omega) (fun b e => by omega), oD_10.out.2.1.kp hk11 (by omega) (fun b e => by omega), oD_10.out.2.2.kp hk11 (by omega) (fun b e => by omega)⟩ : _ ∧ _ ∧ _))
    have K11 : New w w11 := New.one K10 hk11 (by omega)
    clear cP0 cP1 cP2 lP cE0 cE1 cE2 lE cR0 cR1 cR2 fR lR cQ0 cQ1 cQ2 fQ lQ
    clear bR_10 bQ_10 bP_10 bE_10 oC_10 oS_10 oD_10 K10 hk11
    obtain ⟨cP0, cP1, cP2⟩ := cells3 bP_11
    have lP := heap_lt bP_11
    obtain ⟨cE0, cE1, cE2⟩ := cells3 bE_11
    have lE := heap_lt bE_11
    obtain ⟨cR0, cR1, cR2⟩ := cells3 bR_11
    have fR := frozen_of_heap bR_11
    have lR := heap_lt bR_11
    obtain ⟨cQ0, cQ1, cQ2⟩ := cells3 bQ_11
    have fQ := frozen_of_heap bQ_11
    have lQ := heap_lt bQ_11
    refine hK.out _ _ ?_ (fun hHeld2 => ?_)
    · exact ⟨cP0, cP1, cP2, cE0, cE1, cE2⟩
    clear hK K hHeld
    have hHeld := hHeld2
    clear hHeld2
    try simp only [Act.put]
    refine HR 5 rfl fun K hK => ?_
    go_simp
    have hk12 : Kp (fun k => k = w.heap.size + 1) w11 (((w11.setCell ⟨w.heap.size + 1, 0, none⟩ (.int .i64 kS)).setCell ⟨w.heap.size + 1, 1, none⟩ (.int .i64 y)).setCell ⟨w.heap.size + 1, 2, none⟩ (.slice aS lS.length tS)) := (Kp.setCell (Kp.setCell (Kp.setCell (Kp.refl (fun k => k = w.heap.size + 1) _) (.inl rfl) _) (.inl rfl) _) (.inl rfl) _)
    have bQ_12 : (((w11.setCell ⟨w.heap.size + 1, 0, none⟩ (.int .i64 kS)).setCell ⟨w.heap.size + 1, 1, none⟩ (.int .i64 y)).setCell ⟨w.heap.size + 1, 2, none⟩ (.slice aS lS.length tS)).heap[w.heap.size + 1]? = some (.cells #[.int .i64 kS, .int .i64 y, .slice aS lS.length tS] 58) := (setCell_heap (setCell_heap (setCell_heap bQ_11 _) _) _)
    generalize (((w11.setCell ⟨w.heap.size + 1, 0, none⟩ (.int .i64 kS)).setCell ⟨w.heap.size + 1, 1, none⟩ (.int .i64 y)).setCell ⟨w.heap.size + 1, 2, none⟩ (.slice aS lS.length tS)) = w12 at *
    have z12 := hk12.size
    have bR_12 := hk12.bo bR_11
    have bP_12 := hk12.bo bP_11
    have bE_12 := hk12.bo bE_11
    have oC_12 := Lib.hid ((⟨oC_11.out.1.kp hk12 (by omega) (fun b e => by omega), oC_11.out.2.1.kp hk12 (by omega) (fun b e => by omega), oC_11.out.2.2.kp hk12 (by omega) (fun b e => by omega)⟩ : _ ∧ _ ∧ _))
    have oS_12 := Lib.hid (oS_11.out.kp hk12 (by omega) (fun b e => by omega))
    have oD_12 := Lib.hid ((⟨oD_11.out.1.kp hk12 (by omega) (fun b e => by omega), oD_11.out.2.1.kp hk12 (by omega) (fun b e => by omega), oD_11.out.2.2.kp hk12 (by omega) (fun b e => by omega)⟩ : _ ∧ _ ∧ _))
    have K12 : New w w12 := New.one K11 hk12 (by omega)
    clear cP0 cP1 cP2 lP cE0 cE1 cE2 lE cR0 cR1 cR2 fR lR cQ0 cQ1 cQ2 fQ lQ
    clear bR_11 bQ_11 bP_11 bE_11 oC_11 oS_11 oD_11 K11 hk12
    obtain ⟨cP0, cP1, cP2⟩ := cells3 bP_12
    have lP := heap_lt bP_12
    obtain ⟨cE0, cE1, cE2⟩ := cells3 bE_12
    have lE := heap_lt bE_12
    obtain ⟨cR0, cR1, cR2⟩ := cells3 bR_12
    have fR := frozen_of_heap bR_12
    have lR := heap_lt bR_12
    obtain ⟨cQ0, cQ1, cQ2⟩ := cells3 bQ_12
    have fQ := frozen_of_heap bQ_12
    have lQ := heap_lt bQ_12
    refine hK.out _ _ ?_ (fun hHeld2 => ?_)
    · exact ⟨cP0, cP1, cP2, cE0, cE1, cE2⟩
    clear hK K hHeld
    have hHeld := hHeld2
    clear hHeld2
    try simp only [Act.put]
    refine wpAnyH_done (by kernel_rfl) ?_ _
    go_wp2
    exact bodyPost_ret (results_cell2 rfl _ _ _ _ _ _ _ _ _ _ _ _ rfl rfl bR_12 bQ_12 Try.underlying37 Try.underlying58 rfl rfl (by kernel_rfl) (by kernel_rfl)) rfl ⟨_, _, _, ya, yb, m, kS, y, _, lS, rfl, K12, oD_12.out.1.mono (lo' := w.heap.size) (hi' := w12.heap.size) (by omega) (by omega), oD_12.out.2.1.mono (lo' := w.heap.size) (hi' := w12.heap.size) (by omega) (by omega), oD_12.out.2.2.mono (lo' := w.heap.size) (hi' := w12.heap.size) (by omega) (by omega), oS_12.out.mono (lo' := w.heap.size) (hi' := w12.heap.size) (by omega) (by omega), by omega, by omega⟩
  have hv0 : (u == 0) = false := by simpa using hu0
  by_cases hu1 : u = 1
  · subst hu1
    obtain ⟨cE0, cE1, cE2⟩ := cells3 bE_6
    have fE := frozen_of_heap bE_6
    have lE := heap_lt bE_6
    go_wp2_with fail
    have hNr := r6.lt
    refine (num _ br (qS + 1) _ 5 _ (fun x => 0 ≤ x ∧ x ≤ 12) (r6.keep (S := fun _ => False) ((Kp.refl _ _).alloc _) (fun _ f => f.elim)) (by omega) (by omega) (by omega) (by omega) ?_).mono ?_
    · intro i hi
      match i, hi with
      | 0, _ => exact ⟨_, by decide, World.cell?_alloc_new _ _ _ _⟩
      | 1, _ => exact ⟨_, by decide, World.cell?_alloc_new _ _ _ _⟩
      | 2, _ => exact ⟨_, by decide, World.cell?_alloc_new _ _ _ _⟩
      | 3, _ => exact ⟨_, by decide, World.cell?_alloc_new _ _ _ _⟩
      | 4, _ => exact ⟨_, by decide, World.cell?_alloc_new _ _ _ _⟩
    rintro e w7 ⟨y, rfl, ⟨y0, y1⟩, k1, r7⟩
    have hn7 : One br w6 w7 := ((Kp.refl (fun k => k = br) w6).alloc _).trans k1
    clear k1 hNr
    have z7 := hn7.size
    have bR_7 := hn7.bo bR_6
    have bQ_7 := hn7.bo bQ_6
    have bP_7 := hn7.bo bP_6
    have bE_7 := hn7.bo bE_6
    have oC_7 := Lib.hid ((⟨oC_6.out.1.kp hn7 (by omega) (fun b e => by omega), oC_6.out.2.1.kp hn7 (by omega) (fun b e => by omega), oC_6.out.2.2.kp hn7 (by omega) (fun b e => by omega)⟩ : _ ∧ _ ∧ _))
    have oS_7 := Lib.hid (oS_6.out.kp hn7 (by omega) (fun b e => by omega))
    have K7 : New w w7 := New.one K6 hn7 hwbr
    clear cE0 cE1 cE2 fE lE
    clear bR_6 bQ_6 bP_6 bE_6 oC_6 oS_6 K6 r6 hn7
    clear y0 y1
    obtain ⟨cE0, cE1, cE2⟩ := cells3 bE_7
    have fE := frozen_of_heap bE_7
    have lE := heap_lt bE_7
    go_upto_region 11 with fail
    have hk8 : Kp (fun k => k = bE) w7 (w7.setCell ⟨bE, 0, none⟩ (.int .i64 y)) := (Kp.setCell (Kp.refl (fun k => k = bE) _) (.inl rfl) _)
    have bE_8 : (w7.setCell ⟨bE, 0, none⟩ (.int .i64 y)).heap[bE]? = some (.cells #[.int .i64 y, .int .i64 vS, .slice aS lS.length tS] 58) := (setCell_heap bE_7 _)
    generalize (w7.setCell ⟨bE, 0, none⟩ (.int .i64 y)) = w8 at *
    have z8 := hk8.size
    have bR_8 := hk8.bo bR_7
    have bQ_8 := hk8.bo bQ_7
    have bP_8 := hk8.bo bP_7
    have oC_8 := Lib.hid ((⟨oC_7.out.1.kp hk8 (by omega) (fun b e => by omega), oC_7.out.2.1.kp hk8 (by omega) (fun b e => by omega), oC_7.out.2.2.kp hk8 (by omega) (fun b e => by omega)⟩ : _ ∧ _ ∧ _))
    have oS_8 := Lib.hid (oS_7.out.kp hk8 (by omega) (fun b e => by omega))
    have K8 : New w w8 := New.one K7 hk8 (by omega)
    have r8 := r7.kp hk8
    clear cE0 cE1 cE2 fE lE
    clear bR_7 bQ_7 bP_7 bE_7 oC_7 oS_7 K7 r7 hk8
    obtain ⟨cP0, cP1, cP2⟩ := cells3 bP_8
    have lP := heap_lt bP_8
    obtain ⟨cE0, cE1, cE2⟩ := cells3 bE_8
    have lE := heap_lt bE_8
    obtain ⟨cR0, cR1, cR2⟩ := cells3 bR_8
    have fR := frozen_of_heap bR_8
    have lR := heap_lt bR_8
    obtain ⟨cQ0, cQ1, cQ2⟩ := cells3 bQ_8
    have fQ := frozen_of_heap bQ_8
    have lQ := heap_lt bQ_8
    go_wp2_with fail
    refine wp_region_held_drew (S := fun w' => w'.cell? ⟨bP, 0, none⟩ = some (.slice a1 xa.length d1) ∧ w'.cell? ⟨bP, 1, none⟩ = some (.slice a2 xb.length d2) ∧ w'.cell? ⟨bP, 2, none⟩ = some (.slice a3 l.length d3) ∧ w'.cell? ⟨bE, 0, none⟩ = some (.int .i64 y) ∧ w'.cell? ⟨bE, 1, none⟩ = some (.int .i64 vS) ∧ w'.cell? ⟨bE, 2, none⟩ = some (.slice aS lS.length tS)) (by kernel_rfl) ?_ (fun hHeld => ?_)
    · exact ⟨cP0, cP1, cP2, cE0, cE1, cE2⟩
    clear cP0 cP1 cP2 lP cE0 cE1 cE2 lE cR0 cR1 cR2 fR lR cQ0 cQ1 cQ2 fQ lQ
    have hn9 : New w8 w8.drew := (Kp.refl _ _).drew
    generalize w8.drew = w9 at *
    have z9 := hn9.size
    have bR_9 := hn9.bk bR_8
    have bQ_9 := hn9.bk bQ_8
    have bP_9 := hn9.bk bP_8
    have bE_9 := hn9.bk bE_8
    have oC_9 := Lib.hid ((⟨oC_8.out.1.new (by omega) hn9, oC_8.out.2.1.new (by omega) hn9, oC_8.out.2.2.new (by omega) hn9⟩ : _ ∧ _ ∧ _))
    have oS_9 := Lib.hid (oS_8.out.new (by omega) hn9)
    have K9 := K8.trans hn9
    have r9 := r8.nw hn9
    clear bR_8 bQ_8 bP_8 bE_8 oC_8 oS_8 K8 r8 hn9
    obtain ⟨cP0, cP1, cP2⟩ := cells3 bP_9
    have lP := heap_lt bP_9
    obtain ⟨cE0, cE1, cE2⟩ := cells3 bE_9
    have lE := heap_lt bE_9
    obtain ⟨cR0, cR1, cR2⟩ := cells3 bR_9
    have fR := frozen_of_heap bR_9
    have lR := heap_lt bR_9
    obtain ⟨cQ0, cQ1, cQ2⟩ := cells3 bQ_9
    have fQ := frozen_of_heap bQ_9
    have lQ := heap_lt bQ_9
    refine HT 0 rfl ?_
    try simp only [AP]
    refine HT 1 rfl ?_
    try simp only [AP]
    refine HT 3 rfl ?_
    try simp only [AP]
    refine HR 2 rfl fun K hK => ?_
    go_simp
    refine (Mut.l2Mutate w9 br (qS + 1 + 1) w.heap.size w9.heap.size a1 a2 a3 d1 d2 d3 xa xb l r9 (oC_9.out.1.mono (by omega) (by omega)) (oC_9.out.2.1.mono (by omega) (by omega)) (oC_9.out.2.2.mono (by omega) (by omega)) (Nat.le_refl _) (by omega) (by omega) (by omega) (by omega) (by omega)).mono ?_
    rintro e w10 ⟨va, vb, vc, ya, yb, m, qU, rfl, hn10, r10, hqU, hA, hB, hC, hl1, hl2, hl3⟩
    have z10 := hn10.size
    have bR_10 := hn10.bo bR_9
    have bQ_10 := hn10.bo bQ_9
    have bP_10 := hn10.bo bP_9
    have bE_10 := hn10.bo bE_9
    have oC_10 := Lib.hid ((⟨oC_9.out.1.kp hn10 (by omega) (fun b e => by omega), oC_9.out.2.1.kp hn10 (by omega) (fun b e => by omega), oC_9.out.2.2.kp hn10 (by omega) (fun b e => by omega)⟩ : _ ∧ _ ∧ _))
    have oS_10 := Lib.hid (oS_9.out.kp hn10 (by omega) (fun b e => by omega))
    have K10 : New w w10 := New.one K9 hn10 hwbr
    clear cP0 cP1 cP2 lP cE0 cE1 cE2 lE cR0 cR1 cR2 fR lR cQ0 cQ1 cQ2 fQ lQ
    clear bR_9 bQ_9 bP_9 bE_9 oC_9 oS_9 K9 r9 hn10
    obtain ⟨e1, f1, rfl, _⟩ := hA.len
    obtain ⟨e2, f2, rfl, _⟩ := hB.len
    obtain ⟨e3, f3, rfl, _⟩ := hC.len
    have oD_10 := Lib.hid (show _ ∧ _ ∧ _ from ⟨hA, hB, hC⟩)
    clear hA hB hC
    obtain ⟨cP0, cP1, cP2⟩ := cells3 bP_10
    have lP := heap_lt bP_10
    obtain ⟨cE0, cE1, cE2⟩ := cells3 bE_10
    have lE := heap_lt bE_10
    obtain ⟨cR0, cR1, cR2⟩ := cells3 bR_10
    have fR := frozen_of_heap bR_10
    have lR := heap_lt bR_10
    obtain ⟨cQ0, cQ1, cQ2⟩ := cells3 bQ_10
    have fQ := frozen_of_heap bQ_10
    have lQ := heap_lt bQ_10
    refine hK.out _ _ ?_ (fun hHeld2 => ?_)
    · exact ⟨cP0, cP1, cP2, cE0, cE1, cE2⟩
    clear hK K hHeld
    have hHeld := hHeld2
    clear hHeld2
    try simp only [AP]
    refine HR 4 rfl fun K hK => ?_
    go_simp
    have hk11 : Kp (fun k => k = w.heap.size) w10 (((w10.setCell ⟨w.heap.size, 0, none⟩ (.slice e1 ya.length f1)).setCell ⟨w.heap.size, 1, none⟩ (.slice e2 yb.length f2)).setCell ⟨w.heap.size, 2, none⟩ (.slice e3 m.length f3)) := (Kp.setCell (Kp.setCell (Kp.setCell (Kp.refl (fun k => k = w.heap.size) _) (.inl rfl) _) (.inl rfl) _) (.inl rfl) _)
    have bR_11 : (((w10.setCell ⟨w.heap.size, 0, none⟩ (.slice e1 ya.length f1)).setCell ⟨w.heap.size, 1, none⟩ (.slice e2 yb.length f2)).setCell ⟨w.heap.size, 2, none⟩ (.slice e3 m.length f3)).heap[w.heap.size]? = some (.cells #[.slice e1 ya.length f1, .slice e2 yb.length f2, .slice e3 m.length f3] 37) := (setCell_heap (setCell_heap (setCell_heap bR_10 _) _) _)
    generalize (((w10.setCell ⟨w.heap.size, 0, none⟩ (.slice e1 ya.length f1)).setCell ⟨w.heap.size, 1, none⟩ (.slice e2 yb.length f2)).setCell ⟨w.heap.size, 2, none⟩ (.slice e3 m.length f3)) = w11 at *
    have z11 := hk11.size
    have bQ_11 := hk11.bo bQ_10
    have bP_11 := hk11.bo bP_10
    have bE_11 := hk11.bo bE_10
    have oC_11 := Lib.hid ((⟨oC_10.out.1.kp hk11 (by omega) (fun b e => by omega), oC_10.out.2.1.kp hk11 (by omega) (fun b e => by omega), oC_10.out.2.2.kp hk11 (by omega) (fun b e => by omega)⟩ : _ ∧ _ ∧ _))
    have oS_11 := Lib.hid (oS_10.out.kp hk11 (by omega) (fun b e => by omega))
    have oD_11 := Lib.hid ((⟨oD_10.out.1.kp hk11 (by omega) (fun b e => by omega), oD_10.out.2.1.kp hk11 (by omega) (fun b e => by omega), oD_10.out.2.2.kp hk11 (by omega) (fun b e => by omega)⟩ : _ ∧ _ ∧ _))
    have K11 : New w w11 := New.one K10 hk11 (by omega)
    clear cP0 cP1 cP2 lP cE0 cE1 cE2 lE cR0 cR1 cR2 fR lR cQ0 cQ1 cQ2 fQ lQ
    clear bR_10 bQ_10 bP_10 bE_10 oC_10 oS_10 oD_10 K10 hk11
    obtain ⟨cP0, cP1, cP2⟩ := cells3 bP_11
    have lP := heap_lt bP_11
    obtain ⟨cE0, cE1, cE2⟩ := cells3 bE_11
    have lE := heap_lt bE_11
    obtain ⟨cR0, cR1, cR2⟩ := cells3 bR_11
    have fR := frozen_of_heap bR_11
    have lR := heap_lt bR_11
    obtain ⟨cQ0, cQ1, cQ2⟩ := cells3 bQ_11
    have fQ := frozen_of_heap bQ_11
    have lQ := heap_lt bQ_11
    refine hK.out _ _ ?_ (fun hHeld2 => ?_)
    · exact ⟨cP0, cP1, cP2, cE0, cE1, cE2⟩
    clear hK K hHeld
    have hHeld := hHeld2
    clear hHeld2
    try simp only [Act.put]
    refine HR 5 rfl fun K hK => ?_
    go_simp
    have hk12 : Kp (fun k => k = w.heap.size + 1) w11 (((w11.setCell ⟨w.heap.size + 1, 0, none⟩ (.int .i64 y)).setCell ⟨w.heap.size + 1, 1, none⟩ (.int .i64 vS)).setCell ⟨w.heap.size + 1, 2, none⟩ (.slice aS lS.length tS)) := (Kp.setCell (Kp.setCell (Kp.setCell (Kp.refl (fun k => k = w.heap.size + 1) _) (.inl rfl) _) (.inl rfl) _) (.inl rfl) _)
    have bQ_12 : (((w11.setCell ⟨w.heap.size + 1, 0, none⟩ (.int .i64 y)).setCell ⟨w.heap.size + 1, 1, none⟩ (.int .i64 vS)).setCell ⟨w.heap.size + 1, 2, none⟩ (.slice aS lS.length tS)).heap[w.heap.size + 1]? = some (.cells #[.int .i64 y, .int .i64 vS, .slice aS lS.length tS] 58) := (setCell_heap (setCell_heap (setCell_heap bQ_11 _) _) _)
    generalize (((w11.setCell ⟨w.heap.size + 1, 0, none⟩ (.int .i64 y)).setCell ⟨w.heap.size + 1, 1, none⟩ (.int .i64 vS)).setCell ⟨w.heap.size + 1, 2, none⟩ (.slice aS lS.length tS)) = w12 at *
    have z12 := hk12.size
    have bR_12 := hk12.bo bR_11
    have bP_12 := hk12.bo bP_11
    have bE_12 := hk12.bo bE_11
    have oC_12 := Lib.hid ((⟨oC_11.out.1.kp hk12 (by omega) (fun b e => by omega), oC_11.out.2.1.kp hk12 (by omega) (fun b e => by omega), oC_11.out.2.2.kp hk12 (by omega) (fun b e => by omega)⟩ : _ ∧ _ ∧ _))
    have oS_12 := Lib.hid (oS_11.out.kp hk12 (by omega) (fun b e => by omega))
    have oD_12 := Lib.hid ((⟨oD_11.out.1.kp hk12 (by omega) (fun b e => by omega), oD_11.out.2.1.kp hk12 (by omega) (fun b e => by omega), oD_11.out.2.2.kp hk12 (by omega) (fun b e => by omega)⟩ : _ ∧ _ ∧ _))
    have K12 : New w w12 := New.one K11 hk12 (by omega)
    clear cP0 cP1 cP2 lP cE0 cE1 cE2 lE cR0 cR1 cR2 fR lR cQ0 cQ1 cQ2 fQ lQ
    clear bR_11 bQ_11 bP_11 bE_11 oC_11 oS_11 oD_11 K11 hk12
    obtain ⟨cP0, cP1, cP2⟩ := cells3 bP_12
    have lP := heap_lt bP_12
    obtain ⟨cE0, cE1, cE2⟩ := cells3 bE_12
    have lE := heap_lt bE_12
    obtain ⟨cR0, cR1, cR2⟩ := cells3 bR_12
    have fR := frozen_of_heap bR_12
    have lR := heap_lt bR_12
    obtain ⟨cQ0, cQ1, cQ2⟩ := cells3 bQ_12
    have fQ := frozen_of_heap bQ_12
    have lQ := heap_lt bQ_12
    refine hK.out _ _ ?_ (fun hHeld2 => ?_)
    · exact ⟨cP0, cP1, cP2, cE0, cE1, cE2⟩
    clear hK K hHeld
    have hHeld := hHeld2
    clear hHeld2
    try simp only [Act.put]
    refine wpAnyH_done (by kernel_rfl) ?_ _
    go_wp2
    exact bodyPost_ret (results_cell2 rfl _ _ _ _ _ _ _ _ _ _ _ _ rfl rfl bR_12 bQ_12 Try.underlying37 Try.underlying58 rfl rfl (by kernel_rfl) (by kernel_rfl)) rfl ⟨_, _, _, ya, yb, m, y, vS, _, lS, rfl, K12, oD_12.out.1.mono (lo' := w.heap.size) (hi' := w12.heap.size) (by omega) (by omega), oD_12.out.2.1.mono (lo' := w.heap.size) (hi' := w12.heap.size) (by omega) (by omega), oD_12.out.2.2.mono (lo' := w.heap.size) (hi' := w12.heap.size) (by omega) (by omega), oS_12.out.mono (lo' := w.heap.size) (hi' := w12.heap.size) (by omega) (by omega), by omega, by omega⟩
  have hv1 : (u == 1) = false := by simpa using hu1
  by_cases hu2 : u = 2
  · subst hu2
    obtain ⟨cE0, cE1, cE2⟩ := cells3 bE_6
    have fE := frozen_of_heap bE_6
    have lE := heap_lt bE_6
    have hn7 : New w6 (w6.alloc (.cells #[.int .i64 kS, .int .i64 vS, .slice aS lS.length tS] 58)) := (Kp.refl _ _).alloc _
    have bN_7 := alloc_heap w6 (.cells #[.int .i64 kS, .int .i64 vS, .slice aS lS.length tS] 58)
    have yN : w6.heap.size < (w6.alloc (.cells #[.int .i64 kS, .int .i64 vS, .slice aS lS.length tS] 58)).heap.size := lt_alloc _ _
    go_upto_region 11 with fail
    have hk7 : Kp (fun b => b = bE) w6 ((((w6.setCell ⟨bE, 0, none⟩ (.int .i64 3)).setCell ⟨bE, 1, none⟩ (.int .i64 0)).setCell ⟨bE, 2, none⟩ (.slice (some ⟨w6.heap.size, 0, none⟩) 1 1)).alloc (.cells #[.int .i64 kS, .int .i64 vS, .slice aS lS.length tS] 58)) := (((((Kp.refl (fun b => b = bE) _).setCell (.inl rfl) _).setCell (.inl rfl) _).setCell (.inl rfl) _).alloc _)
    have bE_7 : ((((w6.setCell ⟨bE, 0, none⟩ (.int .i64 3)).setCell ⟨bE, 1, none⟩ (.int .i64 0)).setCell ⟨bE, 2, none⟩ (.slice (some ⟨w6.heap.size, 0, none⟩) 1 1)).alloc (.cells #[.int .i64 kS, .int .i64 vS, .slice aS lS.length tS] 58)).heap[bE]? = some (.cells #[.int .i64 3, .int .i64 0, .slice (some ⟨w6.heap.size, 0, none⟩) 1 1] 58) := heap_old (setCell_heap (setCell_heap (setCell_heap bE_6 _) _) _)
    have bM_7 : ((((w6.setCell ⟨bE, 0, none⟩ (.int .i64 3)).setCell ⟨bE, 1, none⟩ (.int .i64 0)).setCell ⟨bE, 2, none⟩ (.slice (some ⟨w6.heap.size, 0, none⟩) 1 1)).alloc (.cells #[.int .i64 kS, .int .i64 vS, .slice aS lS.length tS] 58)).heap[w6.heap.size]? = some (.cells #[.int .i64 kS, .int .i64 vS, .slice aS lS.length tS] 58) := heap_at (by simp)
    have yM : w6.heap.size < ((((w6.setCell ⟨bE, 0, none⟩ (.int .i64 3)).setCell ⟨bE, 1, none⟩ (.int .i64 0)).setCell ⟨bE, 2, none⟩ (.slice (some ⟨w6.heap.size, 0, none⟩) 1 1)).alloc (.cells #[.int .i64 kS, .int .i64 vS, .slice aS lS.length tS] 58)).heap.size := by simp
    generalize ((((w6.setCell ⟨bE, 0, none⟩ (.int .i64 3)).setCell ⟨bE, 1, none⟩ (.int .i64 0)).setCell ⟨bE, 2, none⟩ (.slice (some ⟨w6.heap.size, 0, none⟩) 1 1)).alloc (.cells #[.int .i64 kS, .int .i64 vS, .slice aS lS.length tS] 58)) = w7 at *
    clear hn7 bN_7 yN
    have z7 := hk7.size
    have bR_7 := hk7.bo bR_6
    have bQ_7 := hk7.bo bQ_6
    have bP_7 := hk7.bo bP_6
    have oC_7 := Lib.hid ((⟨oC_6.out.1.kp hk7 (by omega) (fun b e => by omega), oC_6.out.2.1.kp hk7 (by omega) (fun b e => by omega), oC_6.out.2.2.kp hk7 (by omega) (fun b e => by omega)⟩ : _ ∧ _ ∧ _))
    have oS_7 := Lib.hid (oS_6.out.kp hk7 (by omega) (fun b e => by omega))
    have K7 : New w w7 := New.one K6 hk7 (by omega)
    have r7 := r6.kp hk7
    clear cE0 cE1 cE2 fE lE
    clear bR_6 bQ_6 bP_6 bE_6 oC_6 oS_6 K6 r6 hk7
    have oW_7 := Lib.hid (DrawX.kids1 bM_7 (oS_7.out.mono (lo' := w3.heap.size) (hi' := w7.heap.size) (by omega) (by omega)) (by omega) (by omega))
    clear bM_7
    obtain ⟨cP0, cP1, cP2⟩ := cells3 bP_7
    have lP := heap_lt bP_7
    obtain ⟨cE0, cE1, cE2⟩ := cells3 bE_7
    have lE := heap_lt bE_7
    obtain ⟨cR0, cR1, cR2⟩ := cells3 bR_7
    have fR := frozen_of_heap bR_7
    have lR := heap_lt bR_7
    obtain ⟨cQ0, cQ1, cQ2⟩ := cells3 bQ_7
    have fQ := frozen_of_heap bQ_7
    have lQ := heap_lt bQ_7
    go_wp2_with fail
    refine wp_region_held_drew (S := fun w' => w'.cell? ⟨bP, 0, none⟩ = some (.slice a1 xa.length d1) ∧ w'.cell? ⟨bP, 1, none⟩ = some (.slice a2 xb.length d2) ∧ w'.cell? ⟨bP, 2, none⟩ = some (.slice a3 l.length d3) ∧ w'.cell? ⟨bE, 0, none⟩ = some (.int .i64 3) ∧ w'.cell? ⟨bE, 1, none⟩ = some (.int .i64 0) ∧ w'.cell? ⟨bE, 2, none⟩ = some (.slice (some ⟨w6.heap.size, 0, none⟩) 1 1)) (by kernel_rfl) ?_ (fun hHeld => ?_)
    · exact ⟨cP0, cP1, cP2, cE0, cE1, cE2⟩
    clear cP0 cP1 cP2 lP cE0 cE1 cE2 lE cR0 cR1 cR2 fR lR cQ0 cQ1 cQ2 fQ lQ
    have hn8 : New w7 w7.drew := (Kp.refl _ _).drew
    generalize w7.drew = w8 at *
    have z8 := hn8.size
    have bR_8 := hn8.bk bR_7
    have bQ_8 := hn8.bk bQ_7
    have bP_8 := hn8.bk bP_7
    have bE_8 := hn8.bk bE_7
    have oC_8 := Lib.hid ((⟨oC_7.out.1.new (by omega) hn8, oC_7.out.2.1.new (by omega) hn8, oC_7.out.2.2.new (by omega) hn8⟩ : _ ∧ _ ∧ _))
    have oS_8 := Lib.hid (oS_7.out.new (by omega) hn8)
    have oW_8 := Lib.hid (oW_7.out.new (by omega) hn8)
    have K8 := K7.trans hn8
    have r8 := r7.nw hn8
    clear bR_7 bQ_7 bP_7 bE_7 oC_7 oS_7 oW_7 K7 r7 hn8
    obtain ⟨cP0, cP1, cP2⟩ := cells3 bP_8
    have lP := heap_lt bP_8
    obtain ⟨cE0, cE1, cE2⟩ := cells3 bE_8
    have lE := heap_lt bE_8
    obtain ⟨cR0, cR1, cR2⟩ := cells3 bR_8
    have fR := frozen_of_heap bR_8
    have lR := heap_lt bR_8
    obtain ⟨cQ0, cQ1, cQ2⟩ := cells3 bQ_8
    have fQ := frozen_of_heap bQ_8
    have lQ := heap_lt bQ_8
    refine HT 0 rfl ?_
    try simp only [AP]
    refine HT 1 rfl ?_
    try simp only [AP]
    refine HT 3 rfl ?_
    try simp only [AP]
    refine HR 2 rfl fun K hK => ?_
    go_simp
    refine (Mut.l2Mutate w8 br (qS + 1) w.heap.size w8.heap.size a1 a2 a3 d1 d2 d3 xa xb l r8 (oC_8.out.1.mono (by omega) (by omega)) (oC_8.out.2.1.mono (by omega) (by omega)) (oC_8.out.2.2.mono (by omega) (by omega)) (Nat.le_refl _) (by omega) (by omega) (by omega) (by omega) (by omega)).mono ?_
    rintro e w9 ⟨va, vb, vc, ya, yb, m, qU, rfl, hn9, r9, hqU, hA, hB, hC, hl1, hl2, hl3⟩
    have z9 := hn9.size
    have bR_9 := hn9.bo bR_8
    have bQ_9 := hn9.bo bQ_8
    have bP_9 := hn9.bo bP_8
    have bE_9 := hn9.bo bE_8
    have oC_9 := Lib.hid ((⟨oC_8.out.1.kp hn9 (by omega) (fun b e => by omega), oC_8.out.2.1.kp hn9 (by omega) (fun b e => by omega), oC_8.out.2.2.kp hn9 (by omega) (fun b e => by omega)⟩ : _ ∧ _ ∧ _))
    have oS_9 := Lib.hid (oS_8.out.kp hn9 (by omega) (fun b e => by omega))
    have oW_9 := Lib.hid (oW_8.out.kp hn9 (by omega) (fun b e => by omega))
    have K9 : New w w9 := New.one K8 hn9 hwbr
    clear cP0 cP1 cP2 lP cE0 cE1 cE2 lE cR0 cR1 cR2 fR lR cQ0 cQ1 cQ2 fQ lQ
    clear bR_8 bQ_8 bP_8 bE_8 oC_8 oS_8 oW_8 K8 r8 hn9
    obtain ⟨e1, f1, rfl, _⟩ := hA.len
    obtain ⟨e2, f2, rfl, _⟩ := hB.len
    obtain ⟨e3, f3, rfl, _⟩ := hC.len
    have oD_9 := Lib.hid (show _ ∧ _ ∧ _ from ⟨hA, hB, hC⟩)
    clear hA hB hC
    obtain ⟨cP0, cP1, cP2⟩ := cells3 bP_9
    have lP := heap_lt bP_9
    obtain ⟨cE0, cE1, cE2⟩ := cells3 bE_9
    have lE := heap_lt bE_9
    obtain ⟨cR0, cR1, cR2⟩ := cells3 bR_9
    have fR := frozen_of_heap bR_9
    have lR := heap_lt bR_9
    obtain ⟨cQ0, cQ1, cQ2⟩ := cells3 bQ_9
    have fQ := frozen_of_heap bQ_9
    have lQ := heap_lt bQ_9
    refine hK.out _ _ ?_ (fun hHeld2 => ?_)
    · exact ⟨cP0, cP1, cP2, cE0, cE1, cE2⟩
    clear hK K hHeld
    have hHeld := hHeld2
    clear hHeld2
    try simp only [AP]
    refine HR 4 rfl fun K hK => ?_
    go_simp
    have hk10 : Kp (fun k => k = w.heap.size) w9 (((w9.setCell ⟨w.heap.size, 0, none⟩ (.slice e1 ya.length f1)).setCell ⟨w.heap.size, 1, none⟩ (.slice e2 yb.length f2)).setCell ⟨w.heap.size, 2, none⟩ (.slice e3 m.length f3)) := (Kp.setCell (Kp.setCell (Kp.setCell (Kp.refl (fun k => k = w.heap.size) _) (.inl rfl) _) (.inl rfl) _) (.inl rfl) _)
    have bR_10 : (((w9.setCell ⟨w.heap.size, 0, none⟩ (.slice e1 ya.length f1)).setCell ⟨w.heap.size, 1, none⟩ (.slice e2 yb.length f2)).setCell ⟨w.heap.size, 2, none⟩ (.slice e3 m.length f3)).heap[w.heap.size]? = some (.cells #[.slice e1 ya.length f1, .slice e2 yb.length f2, .slice e3 m.length f3] 37) := (setCell_heap (setCell_heap (setCell_heap bR_9 _) _) _)
    generalize (((w9.setCell ⟨w.heap.size, 0, none⟩ (.slice e1 ya.length f1)).setCell ⟨w.heap.size, 1, none⟩ (.slice e2 yb.length f2)).setCell ⟨w.heap.size, 2, none⟩ (.slice e3 m.length f3)) = w10 at *
    have z10 := hk10.size
    have bQ_10 := hk10.bo bQ_9
    have bP_10 := hk10.bo bP_9
    have bE_10 := hk10.bo bE_9
    have oC_10 := Lib.hid ((⟨oC_9.out.1.kp hk10 (by omega) (fun b e => by omega), oC_9.out.2.1.kp hk10 (by omega) (fun b e => by omega), oC_9.out.2.2.kp hk10 (by omega) (fun b e => by omega)⟩ : _ ∧ _ ∧ _))
    have oS_10 := Lib.hid (oS_9.out.kp hk10 (by omega) (fun b e => by omega))
    have oW_10 := Lib.hid (oW_9.out.kp hk10 (by omega) (fun b e => by omega))
    have oD_10 := Lib.hid ((⟨oD_9.out.1.kp hk10 (by omega) (fun b e => by omega), oD_9.out.2.1.kp hk10 (by omega) (fun b e => by omega), oD_9.out.2.2.kp hk10 (by omega) (fun b e => by omega)⟩ : _ ∧ _ ∧ _))
    have K10 : New w w10 := New.one K9 hk10 (by omega)
    clear cP0 cP1 cP2 lP cE0 cE1 cE2 lE cR0 cR1 cR2 fR lR cQ0 cQ1 cQ2 fQ lQ
    clear bR_9 bQ_9 bP_9 bE_9 oC_9 oS_9 oW_9 oD_9 K9 hk10
    obtain ⟨cP0, cP1, cP2⟩ := cells3 bP_10
    have lP := heap_lt bP_10
    obtain ⟨cE0, cE1, cE2⟩ := cells3 bE_10
    have lE := heap_lt bE_10
    obtain ⟨cR0, cR1, cR2⟩ := cells3 bR_10
    have fR := frozen_of_heap bR_10
    have lR := heap_lt bR_10
    obtain ⟨cQ0, cQ1, cQ2⟩ := cells3 bQ_10
    have fQ := frozen_of_heap bQ_10
    have lQ := heap_lt bQ_10
    refine hK.out _ _ ?_ (fun hHeld2 => ?_)
    · exact ⟨cP0, cP1, cP2, cE0, cE1, cE2⟩
    clear hK K hHeld
    have hHeld := hHeld2
    clear hHeld2
    try simp only [Act.put]
    refine HR 5 rfl fun K hK => ?_
    go_simp
    have hk11 : Kp (fun k => k = w.heap.size + 1) w10 (((w10.setCell ⟨w.heap.size + 1, 0, none⟩ (.int .i64 3)).setCell ⟨w.heap.size + 1, 1, none⟩ (.int .i64 0)).setCell ⟨w.heap.size + 1, 2, none⟩ (.slice (some ⟨w6.heap.size, 0, none⟩) 1 1)) := (Kp.setCell (Kp.setCell (Kp.setCell (Kp.refl (fun k => k = w.heap.size + 1) _) (.inl rfl) _) (.inl rfl) _) (.inl rfl) _)
    have bQ_11 : (((w10.setCell ⟨w.heap.size + 1, 0, none⟩ (.int .i64 3)).setCell ⟨w.heap.size + 1, 1, none⟩ (.int .i64 0)).setCell ⟨w.heap.size + 1, 2, none⟩ (.slice (some ⟨w6.heap.size, 0, none⟩) 1 1)).heap[w.heap.size + 1]? = some (.cells #[.int .i64 3, .int .i64 0, .slice (some ⟨w6.heap.size, 0, none⟩) 1 1] 58) := (setCell_heap (setCell_heap (setCell_heap bQ_10 _) _) _)
    generalize (((w10.setCell ⟨w.heap.size + 1, 0, none⟩ (.int .i64 3)).setCell ⟨w.heap.size + 1, 1, none⟩ (.int .i64 0)).setCell ⟨w.heap.size + 1, 2, none⟩ (.slice (some ⟨w6.heap.size, 0, none⟩) 1 1)) = w11 at *
    have z11 := hk11.size
    have bR_11 := hk11.bo bR_10
    have bP_11 := hk11.bo bP_10
    have bE_11 := hk11.bo bE_10
    have oC_11 := Lib.hid ((⟨oC_10.out.1.kp hk11 (by omega) (fun b e => by omega), oC_10.out.2.1.kp hk11 (by omega) (fun b e => by omega), oC_10.out.2.2.kp hk11 (by omega) (fun b e => by omega)⟩ : _ ∧ _ ∧ _))
    have oS_11 := Lib.hid (oS_10.out.kp hk11 (by omega) (fun b e => by omega))
    have oW_11 := Lib.hid (oW_10.out.kp hk11 (by omega) (fun b e => by omega))
    have oD_11 := Lib.hid ((⟨oD_10.out.1.kp hk11 (by omega) (fun b e => by omega), oD_10.out.2.1.kp hk11 (by omega) (fun b e => by omega), oD_10.out.2.2.kp hk11 (by omega) (fun b e => by omega)⟩ : _ ∧ _ ∧ _))
    have K11 : New w w11 := New.one K10 hk11 (by omega)
    clear cP0 cP1 cP2 lP cE0 cE1 cE2 lE cR0 cR1 cR2 fR lR cQ0 cQ1 cQ2 fQ lQ
    clear bR_10 bQ_10 bP_10 bE_10 oC_10 oS_10 oW_10 oD_10 K10 hk11
    obtain ⟨cP0, cP1, cP2⟩ := cells3 bP_11
    have lP := heap_lt bP_11
    obtain ⟨cE0, cE1, cE2⟩ := cells3 bE_11
    have lE := heap_lt bE_11
    obtain ⟨cR0, cR1, cR2⟩ := cells3 bR_11
    have fR := frozen_of_heap bR_11
    have lR := heap_lt bR_11
    obtain ⟨cQ0, cQ1, cQ2⟩ := cells3 bQ_11
    have fQ := frozen_of_heap bQ_11
    have lQ := heap_lt bQ_11
    refine hK.out _ _ ?_ (fun hHeld2 => ?_)
    · exact ⟨cP0, cP1, cP2, cE0, cE1, cE2⟩
    clear hK K hHeld
    have hHeld := hHeld2
    clear hHeld2
    try simp only [Act.put]
    refine wpAnyH_done (by kernel_rfl) ?_ _
    go_wp2
    exact bodyPost_ret (results_cell2 rfl _ _ _ _ _ _ _ _ _ _ _ _ rfl rfl bR_11 bQ_11 Try.underlying37 Try.underlying58 rfl rfl (by kernel_rfl) (by kernel_rfl)) rfl ⟨_, _, _, ya, yb, m, 3, 0, _, [.node kS vS lS], rfl, K11, oD_11.out.1.mono (lo' := w.heap.size) (hi' := w11.heap.size) (by omega) (by omega), oD_11.out.2.1.mono (lo' := w.heap.size) (hi' := w11.heap.size) (by omega) (by omega), oD_11.out.2.2.mono (lo' := w.heap.size) (hi' := w11.heap.size) (by omega) (by omega), oW_11.out.mono (lo' := w.heap.size) (hi' := w11.heap.size) (by omega) (by omega), by omega, by simp only [Ex.sizes, Ex.size]; omega⟩
  have hv2 : (u == 2) = false := by simpa using hu2
  obtain ⟨cP0, cP1, cP2⟩ := cells3 bP_6
  have lP := heap_lt bP_6
  obtain ⟨cE0, cE1, cE2⟩ := cells3 bE_6
  have lE := heap_lt bE_6
  obtain ⟨cR0, cR1, cR2⟩ := cells3 bR_6
  have fR := frozen_of_heap bR_6
  have lR := heap_lt bR_6
  obtain ⟨cQ0, cQ1, cQ2⟩ := cells3 bQ_6
  have fQ := frozen_of_heap bQ_6
  have lQ := heap_lt bQ_6
  go_wp2_with fail
  refine wp_region_held_drew (S := fun w' => w'.cell? ⟨bP, 0, none⟩ = some (.slice a1 xa.length d1) ∧ w'.cell? ⟨bP, 1, none⟩ = some (.slice a2 xb.length d2) ∧ w'.cell? ⟨bP, 2, none⟩ = some (.slice a3 l.length d3) ∧ w'.cell? ⟨bE, 0, none⟩ = some (.int .i64 kS) ∧ w'.cell? ⟨bE, 1, none⟩ = some (.int .i64 vS) ∧ w'.cell? ⟨bE, 2, none⟩ = some (.slice aS lS.length tS)) (by kernel_rfl) ?_ (fun hHeld => ?_)
  · exact ⟨cP0, cP1, cP2, cE0, cE1, cE2⟩
  clear cP0 cP1 cP2 lP cE0 cE1 cE2 lE cR0 cR1 cR2 fR lR cQ0 cQ1 cQ2 fQ lQ
  have hn7 : New w6 w6.drew := (Kp.refl _ _).drew
  generalize w6.drew = w7 at *
  have z7 := hn7.size
  have bR_7 := hn7.bk bR_6
  have bQ_7 := hn7.bk bQ_6
  have bP_7 := hn7.bk bP_6
  have bE_7 := hn7.bk bE_6
  have oC_7 := Lib.hid ((⟨oC_6.out.1.new (by omega) hn7, oC_6.out.2.1.new (by omega) hn7, oC_6.out.2.2.new (by omega) hn7⟩ : _ ∧ _ ∧ _))
  have oS_7 := Lib.hid (oS_6.out.new (by omega) hn7)
  have K7 := K6.trans hn7
  have r7 := r6.nw hn7
  clear bR_6 bQ_6 bP_6 bE_6 oC_6 oS_6 K6 r6 hn7
  obtain ⟨cP0, cP1, cP2⟩ := cells3 bP_7
  have lP := heap_lt bP_7
  obtain ⟨cE0, cE1, cE2⟩ := cells3 bE_7
  have lE := heap_lt bE_7
  obtain ⟨cR0, cR1, cR2⟩ := cells3 bR_7
  have fR := frozen_of_heap bR_7
  have lR := heap_lt bR_7
  obtain ⟨cQ0, cQ1, cQ2⟩ := cells3 bQ_7
  have fQ := frozen_of_heap bQ_7
  have lQ := heap_lt bQ_7
  refine HT 0 rfl ?_
  try simp only [AP]
  refine HT 1 rfl ?_
  try simp only [AP]
  refine HT 3 rfl ?_
  try simp only [AP]
  refine HR 2 rfl fun K hK => ?_
  go_simp
  refine (Mut.l2Mutate w7 br (qS + 1) w.heap.size w7.heap.size a1 a2 a3 d1 d2 d3 xa xb l r7 (oC_7.out.1.mono (by omega) (by omega)) (oC_7.out.2.1.mono (by omega) (by omega)) (oC_7.out.2.2.mono (by omega) (by omega)) (Nat.le_refl _) (by omega) (by omega) (by omega) (by omega) (by omega)).mono ?_
  rintro e w8 ⟨va, vb, vc, ya, yb, m, qU, rfl, hn8, r8, hqU, hA, hB, hC, hl1, hl2, hl3⟩
  have z8 := hn8.size
  have bR_8 := hn8.bo bR_7
  have bQ_8 := hn8.bo bQ_7
  have bP_8 := hn8.bo bP_7
  have bE_8 := hn8.bo bE_7
  have oC_8 := Lib.hid ((⟨oC_7.out.1.kp hn8 (by omega) (fun b e => by omega), oC_7.out.2.1.kp hn8 (by omega) (fun b e => by omega), oC_7.out.2.2.kp hn8 (by omega) (fun b e => by omega)⟩ : _ ∧ _ ∧ _))
  have oS_8 := Lib.hid (oS_7.out.kp hn8 (by omega) (fun b e => by omega))
  have K8 : New w w8 := New.one K7 hn8 hwbr
  clear cP0 cP1 cP2 lP cE0 cE1 cE2 lE cR0 cR1 cR2 fR lR cQ0 cQ1 cQ2 fQ lQ
  clear bR_7 bQ_7 bP_7 bE_7 oC_7 oS_7 K7 r7 hn8
  obtain ⟨e1, f1, rfl, _⟩ := hA.len
  obtain ⟨e2, f2, rfl, _⟩ := hB.len
  obtain ⟨e3, f3, rfl, _⟩ := hC.len
  have oD_8 := Lib.hid (show _ ∧ _ ∧ _ from ⟨hA, hB, hC⟩)
  clear hA hB hC
  obtain ⟨cP0, cP1, cP2⟩ := cells3 bP_8
  have lP := heap_lt bP_8
  obtain ⟨cE0, cE1, cE2⟩ := cells3 bE_8
  have lE := heap_lt bE_8
  obtain ⟨cR0, cR1, cR2⟩ := cells3 bR_8
  have fR := frozen_of_heap bR_8
  have lR := heap_lt bR_8
  obtain ⟨cQ0, cQ1, cQ2⟩ := cells3 bQ_8
  have fQ := frozen_of_heap bQ_8
  have lQ := heap_lt bQ_8
  refine hK.out _ _ ?_ (fun hHeld2 => ?_)
  · exact ⟨cP0, cP1, cP2, cE0, cE1, cE2⟩
  clear hK K hHeld
  have hHeld := hHeld2
  clear hHeld2
  try simp only [AP]
  refine HR 4 rfl fun K hK => ?_
  go_simp
  have hk9 : Kp (fun k => k = w.heap.size) w8 (((w8.setCell ⟨w.heap.size, 0, none⟩ (.slice e1 ya.length f1)).setCell ⟨w.heap.size, 1, none⟩ (.slice e2 yb.length f2)).setCell ⟨w.heap.size, 2, none⟩ (.slice e3 m.length f3)) := (Kp.setCell (Kp.setCell (Kp.setCell (Kp.refl (fun k => k = w.heap.size) _) (.inl rfl) _) (.inl rfl) _) (.inl rfl) _)
  have bR_9 : (((w8.setCell ⟨w.heap.size, 0, none⟩ (.slice e1 ya.length f1)).setCell ⟨w.heap.size, 1, none⟩ (.slice e2 yb.length f2)).setCell ⟨w.heap.size, 2, none⟩ (.slice e3 m.length f3)).heap[w.heap.size]? = some (.cells #[.slice e1 ya.length f1, .slice e2 yb.length f2, .slice e3 m.length f3] 37) := (setCell_heap (setCell_heap (setCell_heap bR_8 _) _) _)
  generalize (((w8.setCell ⟨w.heap.size, 0, none⟩ (.slice e1 ya.length f1)).setCell ⟨w.heap.size, 1, none⟩ (.slice e2 yb.length f2)).setCell ⟨w.heap.size, 2, none⟩ (.slice e3 m.length f3)) = w9 at *
  have z9 := hk9.size
  have bQ_9 := hk9.bo bQ_8
  have bP_9 := hk9.bo bP_8
  have bE_9 := hk9.bo bE_8
  have oC_9 := Lib.hid ((⟨oC_8.out.1.kp hk9 (by omega) (fun b e => by omega), oC_8.out.2.1.kp hk9 (by omega) (fun b e => by omega), oC_8.out.2.2.kp hk9 (by omega) (fun b e => by omega)⟩ : _ ∧ _ ∧ _))
  have oS_9 := Lib.hid (oS_8.out.kp hk9 (by omega) (fun b e => by omega))
  have oD_9 := Lib.hid ((⟨oD_8.out.1.kp hk9 (by omega) (fun b e => by omega), oD_8.out.2.1.kp hk9 (by omega) (fun b e => by omega), oD_8.out.2.2.kp hk9 (by omega) (fun b e => by omega)⟩ : _ ∧ _ ∧ _))
  have K9 : New w w9 := New.one K8 hk9 (by omega)
  clear cP0 cP1 cP2 lP cE0 cE1 cE2 lE cR0 cR1 cR2 fR lR cQ0 cQ1 cQ2 fQ lQ
  clear bR_8 bQ_8 bP_8 bE_8 oC_8 oS_8 oD_8 K8 hk9
  obtain ⟨cP0, cP1, cP2⟩ := cells3 bP_9
  have lP := heap_lt bP_9
  obtain ⟨cE0, cE1, cE2⟩ := cells3 bE_9
  have lE := heap_lt bE_9
  obtain ⟨cR0, cR1, cR2⟩ := cells3 bR_9
  have fR := frozen_of_heap bR_9
  have lR := heap_lt bR_9
  obtain ⟨cQ0, cQ1, cQ2⟩ := cells3 bQ_9
  have fQ := frozen_of_heap bQ_9
  have lQ := heap_lt bQ_9
  refine hK.out _ _ ?_ (fun hHeld2 => ?_)
  · exact ⟨cP0, cP1, cP2, cE0, cE1, cE2⟩
  clear hK K hHeld
  have hHeld := hHeld2
  clear hHeld2
  try simp only [Act.put]
  refine HR 5 rfl fun K hK => ?_
  go_simp
  have hk10 : Kp (fun k => k = w.heap.size + 1) w9 (((w9.setCell ⟨w.heap.size + 1, 0, none⟩ (.int .i64 kS)).setCell ⟨w.heap.size + 1, 1, none⟩ (.int .i64 vS)).setCell ⟨w.heap.size + 1, 2, none⟩ (.slice aS lS.length tS)) := (Kp.setCell (Kp.setCell (Kp.setCell (Kp.refl (fun k => k = w.heap.size + 1) _) (.inl rfl) _) (.inl rfl) _) (.inl rfl) _)
  have bQ_10 : (((w9.setCell ⟨w.heap.size + 1, 0, none⟩ (.int .i64 kS)).setCell ⟨w.heap.size + 1, 1, none⟩ (.int .i64 vS)).setCell ⟨w.heap.size + 1, 2, none⟩ (.slice aS lS.length tS)).heap[w.heap.size + 1]? = some (.cells #[.int .i64 kS, .int .i64 vS, .slice aS lS.length tS] 58) := (setCell_heap (setCell_heap (setCell_heap bQ_9 _) _) _)
  generalize (((w9.setCell ⟨w.heap.size + 1, 0, none⟩ (.int .i64 kS)).setCell ⟨w.heap.size + 1, 1, none⟩ (.int .i64 vS)).setCell ⟨w.heap.size + 1, 2, none⟩ (.slice aS lS.length tS)) = w10 at *
  have z10 := hk10.size
  have bR_10 := hk10.bo bR_9
  have bP_10 := hk10.bo bP_9
  have bE_10 := hk10.bo bE_9
  have oC_10 := Lib.hid ((⟨oC_9.out.1.kp hk10 (by omega) (fun b e => by omega), oC_9.out.2.1.kp hk10 (by omega) (fun b e => by omega), oC_9.out.2.2.kp hk10 (by omega) (fun b e => by omega)⟩ : _ ∧ _ ∧ _))
  have oS_10 := Lib.hid (oS_9.out.kp hk10 (by omega) (fun b e => by omega))
  have oD_10 := Lib.hid ((⟨oD_9.out.1.kp hk10 (by omega) (fun b e => by omega), oD_9.out.2.1.kp hk10 (by omega) (fun b e => by omega), oD_9.out.2.2.kp hk10 (by omega) (fun b e => by omega)⟩ : _ ∧ _ ∧ _))
  have K10 : New w w10 := New.one K9 hk10 (by omega)
  clear cP0 cP1 cP2 lP cE0 cE1 cE2 lE cR0 cR1 cR2 fR lR cQ0 cQ1 cQ2 fQ lQ
  clear bR_9 bQ_9 bP_9 bE_9 oC_9 oS_9 oD_9 K9 hk10
  obtain ⟨cP0, cP1, cP2⟩ := cells3 bP_10
  have lP := heap_lt bP_10
  obtain ⟨cE0, cE1, cE2⟩ := cells3 bE_10
  have lE := heap_lt bE_10
  obtain ⟨cR0, cR1, cR2⟩ := cells3 bR_10
  have fR := frozen_of_heap bR_10
  have lR := heap_lt bR_10
  obtain ⟨cQ0, cQ1, cQ2⟩ := cells3 bQ_10
  have fQ := frozen_of_heap bQ_10
  have lQ := heap_lt bQ_10
  refine hK.out _ _ ?_ (fun hHeld2 => ?_)
  · exact ⟨cP0, cP1, cP2, cE0, cE1, cE2⟩
  clear hK K hHeld
  have hHeld := hHeld2
  clear hHeld2
  try simp only [Act.put]
  refine wpAnyH_done (by kernel_rfl) ?_ _
  go_wp2
  exact bodyPost_ret (results_cell2 rfl _ _ _ _ _ _ _ _ _ _ _ _ rfl rfl bR_10 bQ_10 Try.underlying37 Try.underlying58 rfl rfl (by kernel_rfl) (by kernel_rfl)) rfl ⟨_, _, _, ya, yb, m, kS, vS, _, lS, rfl, K10, oD_10.out.1.mono (lo' := w.heap.size) (hi' := w10.heap.size) (by omega) (by omega), oD_10.out.2.1.mono (lo' := w.heap.size) (hi' := w10.heap.size) (by omega) (by omega), oD_10.out.2.2.mono (lo' := w.heap.size) (hi' := w10.heap.size) (by omega) (by omega), oS_10.out.mono (lo' := w.heap.size) (hi' := w10.heap.size) (by omega) (by omega), by omega, by omega⟩
set_option maxHeartbeats 2000000 in
theorem drawCompileExpr (w : World) (a : Option Addr) (len cap : Nat) (h : Src w a len cap) : Calls Try.prog 38 #[.slice a len cap] w (GotPE w) := by
  have N0 : New w ((w.alloc (.cells #[.slice none 0 0, .slice none 0 0, .slice none 0 0] 37)).alloc (.cells #[.int .i64 0, .int .i64 0, .slice none 0 0] 58)) := ((Kp.refl _ _).alloc _).alloc _
  have bR_0 : ((w.alloc (.cells #[.slice none 0 0, .slice none 0 0, .slice none 0 0] 37)).alloc (.cells #[.int .i64 0, .int .i64 0, .slice none 0 0] 58)).heap[w.heap.size]? = some (.cells #[.slice none 0 0, .slice none 0 0, .slice none 0 0] 37) := heap_old (alloc_heap _ _)
  have bQ_0 : ((w.alloc (.cells #[.slice none 0 0, .slice none 0 0, .slice none 0 0] 37)).alloc (.cells #[.int .i64 0, .int .i64 0, .slice none 0 0] 58)).heap[w.heap.size + 1]? = some (.cells #[.int .i64 0, .int .i64 0, .slice none 0 0] 58) := heap_at (by simp)
  have z0 : w.heap.size + 1 < ((w.alloc (.cells #[.slice none 0 0, .slice none 0 0, .slice none 0 0] 37)).alloc (.cells #[.int .i64 0, .int .i64 0, .slice none 0 0] 58)).heap.size := by simp
  have hs := Lib.hid (h.keep N0)
  clear h
  go_enter Try.func38, Try.ntmps38
  go_upto_region 1 with fail
  generalize (w.alloc (.cells #[.slice none 0 0, .slice none 0 0, .slice none 0 0] 37)).alloc (.cells #[.int .i64 0, .int .i64 0, .slice none 0 0] 58) = w0 at *
  go_wp2_with fail
  refine (drawExprValid w0 _ _ _ hs.out).mono ?_
  rintro e w1 ⟨va, vb, vc, ya, yb, m, k, v, s, ks, rfl, hn1, hA, hB, hC, hK, hl, hk⟩
  obtain ⟨e1, f1, rfl, _⟩ := hA.len
  obtain ⟨e2, f2, rfl, _⟩ := hB.len
  obtain ⟨e3, f3, rfl, _⟩ := hC.len
  obtain ⟨e4, f4, rfl, _⟩ := hK.len
  have z1 := hn1.size
  have bR := heap_new hn1 bR_0
  have bQ := heap_new hn1 bQ_0
  have oD := Lib.hid (show _ ∧ _ ∧ _ ∧ _ from ⟨hA, hB, hC, hK⟩)
  have N1 := N0.trans hn1
  have rf := frozen_of_heap bR
  have rl := heap_lt bR
  obtain ⟨c0, c1, c2⟩ := cells3 bR
  have qf := frozen_of_heap bQ
  have ql := heap_lt bQ
  obtain ⟨q0, q1, q2⟩ := cells3 bQ
  clear hA hB hC hK N0 hn1 bR_0 bQ_0 hs
  go_wp2
  have hkz := setMany_kp (w.heap.size) [.slice e1 ya.length f1, .slice e2 yb.length f2, .slice e3 m.length f3] w1 0
  have zs := setMany_size (w.heap.size) [.slice e1 ya.length f1, .slice e2 yb.length f2, .slice e3 m.length f3] w1 0
  have hR := setMany_row [.slice e1 ya.length f1, .slice e2 yb.length f2, .slice e3 m.length f3] bR rfl
  have hQ := setMany_other (b := w.heap.size) (c := w.heap.size + 1) [.slice e1 ya.length f1, .slice e2 yb.length f2, .slice e3 m.length f3] 0 bQ (by omega)
  have N2 := New.one N1 hkz (by omega)
  have oD2 := Lib.hid (show _ ∧ _ ∧ _ ∧ _ from ⟨oD.out.1.kp hkz (by omega) (fun b e => .inl (by omega)), oD.out.2.1.kp hkz (by omega) (fun b e => .inl (by omega)), oD.out.2.2.1.kp hkz (by omega) (fun b e => .inl (by omega)), oD.out.2.2.2.kp hkz (by omega) (fun b e => .inl (by omega))⟩)
  have hky := setMany_kp (w.heap.size + 1) [.int .i64 k, .int .i64 v, .slice e4 ks.length f4] (setMany w1 (w.heap.size) 0 [.slice e1 ya.length f1, .slice e2 yb.length f2, .slice e3 m.length f3]) 0
  have zy := setMany_size (w.heap.size + 1) [.int .i64 k, .int .i64 v, .slice e4 ks.length f4] (setMany w1 (w.heap.size) 0 [.slice e1 ya.length f1, .slice e2 yb.length f2, .slice e3 m.length f3]) 0
  have hQ2 := setMany_row [.int .i64 k, .int .i64 v, .slice e4 ks.length f4] hQ rfl
  have hR2 := setMany_other (b := w.heap.size + 1) (c := w.heap.size) [.int .i64 k, .int .i64 v, .slice e4 ks.length f4] 0 hR (by omega)
  exact bodyPost_ret (results_cell2 rfl _ _ _ _ _ _ _ _ _ _ _ _ rfl rfl hR2 hQ2 Try.underlying37 Try.underlying58 rfl rfl (by kernel_rfl) (by kernel_rfl)) rfl ⟨_, _, _, ya, yb, m, k, v, _, ks, rfl, New.one N2 hky (by omega), (oD2.out.1.kp hky (by omega) (fun b e => .inl (by omega))).mono (lo' := w.heap.size) (hi' := (setMany (setMany w1 (w.heap.size) 0 [.slice e1 ya.length f1, .slice e2 yb.length f2, .slice e3 m.length f3]) (w.heap.size + 1) 0 [.int .i64 k, .int .i64 v, .slice e4 ks.length f4]).heap.size) (by omega) (by omega), (oD2.out.2.1.kp hky (by omega) (fun b e => .inl (by omega))).mono (lo' := w.heap.size) (hi' := (setMany (setMany w1 (w.heap.size) 0 [.slice e1 ya.length f1, .slice e2 yb.length f2, .slice e3 m.length f3]) (w.heap.size + 1) 0 [.int .i64 k, .int .i64 v, .slice e4 ks.length f4]).heap.size) (by omega) (by omega), (oD2.out.2.2.1.kp hky (by omega) (fun b e => .inl (by omega))).mono (lo' := w.heap.size) (hi' := (setMany (setMany w1 (w.heap.size) 0 [.slice e1 ya.length f1, .slice e2 yb.length f2, .slice e3 m.length f3]) (w.heap.size + 1) 0 [.int .i64 k, .int .i64 v, .slice e4 ks.length f4]).heap.size) (by omega) (by omega), (oD2.out.2.2.2.kp hky (by omega) (fun b e => .inl (by omega))).mono (lo' := w.heap.size) (hi' := (setMany (setMany w1 (w.heap.size) 0 [.slice e1 ya.length f1, .slice e2 yb.length f2, .slice e3 m.length f3]) (w.heap.size + 1) 0 [.int .i64 k, .int .i64 v, .slice e4 ks.length f4]).heap.size) (by omega) (by omega), hl, hk⟩
end Go.Proofs.Ytckikiaockkmbaa.DrawZ
