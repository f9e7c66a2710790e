/- l3Trace: the events of a drawn run. No conditions. -/
import Derived.Test.YtckikiaockkmbaaDoorXDrawG
import Derived.Test.YtckikiaockkmbaaDoorXDrawM
import Derived.Test.YtckikiaockkmbaaDoorXRuM
import Derived.Test.YtckikiaockkmbaaDoorXP1
namespace Go.Proofs.YtckikiaockkmbaaDoor.DrawJ
open Go.RowKit Kit Draw DrawX MarkC
set_option linter.unusedVariables false
/-- events, by at most so many draws -/
def GotT (w : World) (br p : Nat) (e : Ending) (w' : World) : Prop := ∃ (ev : Value) (lE : List Ev) (q : Nat), e = .returned ev ∧ One br w w' ∧ Rd w' br q ∧ q ≤ p + 3200000 ∧ OwnF 2 encE w' w.heap.size 54 ev lE ∧ lE.length ≤ 1000000
set_option maxHeartbeats 16000000 in
set_option maxRecDepth 100000 in
theorem l3Trace (w : World) (br p : Nat) (h : Rd w br p) (hp : p + 3300000 < 1099511627776) :
    Calls Tryd.prog 40 #[.pointer (some ⟨br, 0, none⟩)] w (GotT w br p) := by
  have hbl0 := h.lt
  go_enter Tryd.func40, Tryd.ntmps40
  go_wp2_with fail
  refine (DrawG.l2Program w br p h (by omega)).mono ?_
  rintro e w1 ⟨a1, a2, a3, d1, d2, d3, xa, xb, l, q, rfl, hn1, r1, hq, hA, hB, hC, hxa, hxb, hx, -, -⟩
  have z1 := hn1.size
  have hbl : br < w1.heap.size := by omega
  have K1 : One br w w1 := hn1
  have hll := St.length_sizes l
  have oC_1 := Lib.hid (show _ ∧ _ ∧ _ from ⟨hA, hB, hC⟩)
  clear hA hB hC hn1 h
  obtain ⟨hn2, y2, bP_2⟩ := newb w1 (.cells #[.slice a1 xa.length d1, .slice a2 xb.length d2, .slice a3 l.length d3] 41)
  go_upto_region 2 with fail
  have yy2 : br < w1.heap.size := r1.lt
  generalize hbP : w1.heap.size = bP at bP_2 y2 yy2 ⊢
  generalize (w1.alloc (.cells #[.slice a1 xa.length d1, .slice a2 xb.length d2, .slice a3 l.length d3] 41)) = w2 at *
  have z2 := hn2.size
  have oC_2 := Lib.hid ((⟨oC_1.out.1.new (by omega) hn2, oC_1.out.2.1.new (by omega) hn2, oC_1.out.2.2.new (by omega) hn2⟩ : _ ∧ _ ∧ _))
  have K2 := K1.nw hn2
  have r2 := r1.nw hn2
  clear oC_1 K1 r1 hn2
  obtain ⟨cP0, cP1, cP2⟩ := cells3 bP_2
  have lP := heap_lt bP_2
  go_wp2_with fail
  refine wp_region_tail (k := 10) (S := fun w' => w'.cell? ⟨bP, 0, none⟩ = some (.slice a1 xa.length d1) ∧ w'.cell? ⟨bP, 1, none⟩ = some (.slice a2 xb.length d2) ∧ w'.cell? ⟨bP, 2, none⟩ = some (.slice a3 l.length d3)) (by kernel_rfl) ?_ (fun hHeld => ?_)
  · exact ⟨cP0, cP1, cP2⟩
  clear cP0 cP1 cP2 lP
  have hn3 : New w2 w2.drew := (Kp.refl _ _).drew
  generalize w2.drew = w3 at *
  have z3 := hn3.size
  have bP_3 := hn3.bk bP_2
  have oC_3 := Lib.hid ((⟨oC_2.out.1.new (by omega) hn3, oC_2.out.2.1.new (by omega) hn3, oC_2.out.2.2.new (by omega) hn3⟩ : _ ∧ _ ∧ _))
  have K3 := K2.nw hn3
  have r3 := r2.nw hn3
  clear bP_2 oC_2 K2 r2 hn3
  obtain ⟨cP0, cP1, cP2⟩ := cells3 bP_3
  have lP := heap_lt bP_3
  refine AnyK.tk 0 rfl ?_
  try simp only [AP]
  refine AnyK.tw 1 rfl ?_
  try simp only [AP]
  refine AnyK.tk 2 rfl ?_
  try simp only [AP]
  refine AnyK.two (i := 3) (j := 9) (by kernel_rfl) rfl rfl (fun K hK => ?_) (fun K hK => ?_)
  · go_simp
    refine (DrawM.l3Memory w3 br (q) a1 a2 a3 xa.length d1 xb.length d2 l.length d3 r3 (by omega) (by omega) (by omega)).mono ?_
    rintro e w4 ⟨u1, u2, za, zb, q3, rfl, hn4, r4, hq3, hM1, hz1, hz2, hz3⟩
    have z4 := hn4.size
    have bP_4 := hn4.bo bP_3
    have oC_4 := Lib.hid ((⟨oC_3.out.1.kp hn4 (by omega) (fun b e => by omega), oC_3.out.2.1.kp hn4 (by omega) (fun b e => by omega), oC_3.out.2.2.kp hn4 (by omega) (fun b e => by omega)⟩ : _ ∧ _ ∧ _))
    have K4 := K3.trans hn4
    clear cP0 cP1 cP2 lP
    clear bP_3 oC_3 K3 r3 hn4
    have oM_4 := Lib.hid hM1
    clear hM1 hz3
    obtain ⟨cP0, cP1, cP2⟩ := cells3 bP_4
    have lP := heap_lt bP_4
    refine hK.out _ _ ?_ (fun hHeld2 => ?_)
    · exact ⟨cP0, cP1, cP2⟩
    clear hK K hHeld
    have hHeld := hHeld2
    clear hHeld2
    try simp only [AP]
    refine AnyK.two (i := 4) (j := 9) (by kernel_rfl) rfl rfl (fun K hK => ?_) (fun K hK => ?_)
    · go_simp
      refine (RuM.specR oC_4.out.1 oC_4.out.2.1 oC_4.out.2.2 oM_4.out (by omega) (by omega) (by omega) (by omega) (by omega)).mono ?_
      rintro e w5 ⟨aU, nU, dU, aV, nV, dV, ev, lE, ok, rfl, hn5, hE, hlE⟩
      have z5 := hn5.size
      have bP_5 := hn5.bk bP_4
      have K5 := K4.nw hn5
      have r5 := r4.nw hn5
      clear cP0 cP1 cP2 lP
      clear bP_4 K4 r4 hn5
      have oE_5 := Lib.hid hE
      clear hE
      obtain ⟨cP0, cP1, cP2⟩ := cells3 bP_5
      have lP := heap_lt bP_5
      refine hK.out _ _ ?_ (fun hHeld2 => ?_)
      · exact ⟨cP0, cP1, cP2⟩
      clear hK K hHeld
      have hHeld := hHeld2
      clear hHeld2
      try simp only [AP]
      refine AnyK.tw 5 rfl ?_
      try simp only [AP]
      refine AnyK.tw 6 rfl ?_
      try simp only [AP]
      refine AnyK.tw 7 rfl ?_
      try simp only [AP]
      refine AnyK.tw 8 rfl ?_
      try simp only [AP]
      refine AnyK.step (i := 9) (by kernel_rfl) rfl (fun K hK => ?_)
      go_simp
      obtain ⟨hn6, y6, bQ_6⟩ := newb w5 (.cells #[.slice none 0 0, .slice none 0 0] 101)
      generalize w5.alloc (.cells #[.slice none 0 0, .slice none 0 0] 101) = w6 at *
      have z6 := hn6.size
      have bP_6 := hn6.bk bP_5
      have oE_6 := Lib.hid (oE_5.out.new hn6)
      have K6 := K5.nw hn6
      have r6 := r5.nw hn6
      clear cP0 cP1 cP2 lP
      clear bP_5 oE_5 K5 r5 hn6
      obtain ⟨cP0, cP1, cP2⟩ := cells3 bP_6
      have lP := heap_lt bP_6
      refine hK.out _ _ ?_ (fun hHeld2 => ?_)
      · exact ⟨cP0, cP1, cP2⟩
      clear hK K hHeld
      have hHeld := hHeld2
      clear hHeld2
      try simp only [AP]
      refine AnyK.last (by kernel_rfl) ?_
      simp only [List.drop_succ_cons, List.drop_zero]
      clear hHeld
      clear cP0 cP1 cP2 lP
      obtain ⟨cQ0, cQ1⟩ := cells2 bQ_6
      have fQ := frozen_of_heap bQ_6
      have lQ := heap_lt bQ_6
      have kz : Kp (fun c => c = w5.heap.size) w6 ((w6.setCell ⟨w5.heap.size, 0, none⟩ (.slice aU nU dU)).setCell ⟨w5.heap.size, 1, none⟩ (.slice aV nV dV)) := ((Kp.refl (fun c => c = w5.heap.size) _).setCell (.inl rfl) _).setCell (.inl rfl) _
      have zz := kz.size
      have hE2 := Lib.hid ((oE_6.out.kp kz fun c e1 e2 => by subst e2; exact OwnF.box oE_6.out bQ_6 (by decide) e1).up (base' := w.heap.size) fun b hb => by have := (oE_6.out.lt b hb).1; omega)
      have K9 := Lib.hid (one_on K6 kz (by omega))
      have r9 := Lib.hid (r6.keep kz (fun i e => by omega))
      clear kz oE_6 K6 r6 bP_6 bQ_6
      go_upto_region 3 with fail
      generalize ((w6.setCell ⟨w5.heap.size, 0, none⟩ (.slice aU nU dU)).setCell ⟨w5.heap.size, 1, none⟩ (.slice aV nV dV)) = wz at *
      clear cQ0 cQ1 fQ lQ
      have kA : New wz (wz.alloc (.cells #[] 54)) := (Kp.refl _ _).alloc _
      have hO := Lib.hid (OwnF.empty (α := Ev) (n := 2) (enc := encE) wz 54 (base := wz.heap.size) (Nat.le_refl _))
      have hEA := Lib.hid (hE2.out.new kA)
      have KA := Lib.hid (one_new K9.out kA (fun _ f => f.elim))
      have rA := Lib.hid (r9.out.keep kA (fun _ f => f.elim))
      have hbz := r9.out.lt
      have zA : w.heap.size ≤ wz.heap.size := K9.out.size
      obtain ⟨aE, dE, hEe, _⟩ := hE2.out.reads.len
      subst hEe
      go_wp2_with (at_builtin; refine wpList_pushesN rfl _ _ 25 rfl wz.heap.size 54 _ 16 Tryd.underlying25 EvI.infoE rfl (by decide) _ [] rfl hO.out _ lE rfl hEA.out.reads (fun q _ => EvI.oneE q) ?ca ?cb ?cc ?_)
      case ca => simp; omega
      case cb => simp; omega
      case cc => simp
      intro ev4 w4 hv4 hk4 ha4
      have hown : ∀ b, (Value.slice (some ⟨wz.heap.size, 0, none⟩) 0 0).ownBlock = some b → b = wz.heap.size := fun b e => by simpa [Value.ownBlock] using e.symm
      have K4 := Lib.hid (one_new KA.out hk4 (fun b e => by have := hown b e; omega))
      have r4 := Lib.hid (rA.out.keep hk4 (fun b e => by have := hown b e; omega))
      have hv4h := Lib.hid (hv4.up (base' := w.heap.size) fun b hb => by have := (hv4.lt b hb).1; omega)
      obtain ⟨aF, dF, hF, _⟩ := hv4.reads.len
      subst hF
      clear hv4 hk4 ha4 hO hEA KA rA hE2 K9 r9 kA
      go_wp2
      refine bodyPost_ret (RuS.results_tmp1 rfl _ _) rfl ?_
      exact ⟨_, lE, _, rfl, K4.out, r4.out, by omega, hv4h.out, by omega⟩
    · go_simp
      obtain ⟨hn5, y5, bQ_5⟩ := newb w4 (.cells #[.slice none 0 0, .slice none 0 0] 101)
      generalize w4.alloc (.cells #[.slice none 0 0, .slice none 0 0] 101) = w5 at *
      have z5 := hn5.size
      have bP_5 := hn5.bk bP_4
      have oC_5 := Lib.hid ((⟨oC_4.out.1.new (by omega) hn5, oC_4.out.2.1.new (by omega) hn5, oC_4.out.2.2.new (by omega) hn5⟩ : _ ∧ _ ∧ _))
      have oM_5 := Lib.hid (oM_4.out.new (by omega) hn5)
      have K5 := K4.nw hn5
      have r5 := r4.nw hn5
      clear cP0 cP1 cP2 lP
      clear bP_4 oC_4 oM_4 K4 r4 hn5
      obtain ⟨cP0, cP1, cP2⟩ := cells3 bP_5
      have lP := heap_lt bP_5
      refine hK.out _ _ ?_ (fun hHeld2 => ?_)
      · exact ⟨cP0, cP1, cP2⟩
      clear hK K hHeld
      have hHeld := hHeld2
      clear hHeld2
      try simp only [AP]
      refine AnyK.step (i := 4) (by kernel_rfl) rfl (fun K hK => ?_)
      go_simp
      refine (RuM.specR oC_5.out.1 oC_5.out.2.1 oC_5.out.2.2 oM_5.out (by omega) (by omega) (by omega) (by omega) (by omega)).mono ?_
      rintro e w6 ⟨aU, nU, dU, aV, nV, dV, ev, lE, ok, rfl, hn6, hE, hlE⟩
      have z6 := hn6.size
      have bP_6 := hn6.bk bP_5
      have bQ_6 := hn6.bk bQ_5
      have K6 := K5.nw hn6
      have r6 := r5.nw hn6
      clear cP0 cP1 cP2 lP
      clear bP_5 bQ_5 K5 r5 hn6
      have oE_6 := Lib.hid hE
      clear hE
      obtain ⟨cP0, cP1, cP2⟩ := cells3 bP_6
      have lP := heap_lt bP_6
      refine hK.out _ _ ?_ (fun hHeld2 => ?_)
      · exact ⟨cP0, cP1, cP2⟩
      clear hK K hHeld
      have hHeld := hHeld2
      clear hHeld2
      try simp only [AP]
      refine AnyK.tw 5 rfl ?_
      try simp only [AP]
      refine AnyK.tw 6 rfl ?_
      try simp only [AP]
      refine AnyK.tw 7 rfl ?_
      try simp only [AP]
      refine AnyK.tw 8 rfl ?_
      try simp only [AP]
      refine AnyK.last (by kernel_rfl) ?_
      simp only [List.drop_succ_cons, List.drop_zero]
      clear hHeld
      clear cP0 cP1 cP2 lP
      obtain ⟨cQ0, cQ1⟩ := cells2 bQ_6
      have fQ := frozen_of_heap bQ_6
      have lQ := heap_lt bQ_6
      have kz : Kp (fun c => c = w4.heap.size) w6 ((w6.setCell ⟨w4.heap.size, 0, none⟩ (.slice aU nU dU)).setCell ⟨w4.heap.size, 1, none⟩ (.slice aV nV dV)) := ((Kp.refl (fun c => c = w4.heap.size) _).setCell (.inl rfl) _).setCell (.inl rfl) _
      have zz := kz.size
      have hE2 := Lib.hid ((oE_6.out.kp kz fun c e1 e2 => by subst e2; exact OwnF.box oE_6.out bQ_6 (by decide) e1).up (base' := w.heap.size) fun b hb => by have := (oE_6.out.lt b hb).1; omega)
      have K9 := Lib.hid (one_on K6 kz (by omega))
      have r9 := Lib.hid (r6.keep kz (fun i e => by omega))
      clear kz oE_6 K6 r6 bP_6 bQ_6
      go_upto_region 3 with fail
      generalize ((w6.setCell ⟨w4.heap.size, 0, none⟩ (.slice aU nU dU)).setCell ⟨w4.heap.size, 1, none⟩ (.slice aV nV dV)) = wz at *
      clear cQ0 cQ1 fQ lQ
      have kA : New wz (wz.alloc (.cells #[] 54)) := (Kp.refl _ _).alloc _
      have hO := Lib.hid (OwnF.empty (α := Ev) (n := 2) (enc := encE) wz 54 (base := wz.heap.size) (Nat.le_refl _))
      have hEA := Lib.hid (hE2.out.new kA)
      have KA := Lib.hid (one_new K9.out kA (fun _ f => f.elim))
      have rA := Lib.hid (r9.out.keep kA (fun _ f => f.elim))
      have hbz := r9.out.lt
      have zA : w.heap.size ≤ wz.heap.size := K9.out.size
      obtain ⟨aE, dE, hEe, _⟩ := hE2.out.reads.len
      subst hEe
      go_wp2_with (at_builtin; refine wpList_pushesN rfl _ _ 25 rfl wz.heap.size 54 _ 16 Tryd.underlying25 EvI.infoE rfl (by decide) _ [] rfl hO.out _ lE rfl hEA.out.reads (fun q _ => EvI.oneE q) ?ca ?cb ?cc ?_)
      case ca => simp; omega
      case cb => simp; omega
      case cc => simp
      intro ev4 w4 hv4 hk4 ha4
      have hown : ∀ b, (Value.slice (some ⟨wz.heap.size, 0, none⟩) 0 0).ownBlock = some b → b = wz.heap.size := fun b e => by simpa [Value.ownBlock] using e.symm
      have K4 := Lib.hid (one_new KA.out hk4 (fun b e => by have := hown b e; omega))
      have r4 := Lib.hid (rA.out.keep hk4 (fun b e => by have := hown b e; omega))
      have hv4h := Lib.hid (hv4.up (base' := w.heap.size) fun b hb => by have := (hv4.lt b hb).1; omega)
      obtain ⟨aF, dF, hF, _⟩ := hv4.reads.len
      subst hF
      clear hv4 hk4 ha4 hO hEA KA rA hE2 K9 r9 kA
      go_wp2
      refine bodyPost_ret (RuS.results_tmp1 rfl _ _) rfl ?_
      exact ⟨_, lE, _, rfl, K4.out, r4.out, by omega, hv4h.out, by omega⟩
  · go_simp
    obtain ⟨hn4, y4, bQ_4⟩ := newb w3 (.cells #[.slice none 0 0, .slice none 0 0] 101)
    generalize w3.alloc (.cells #[.slice none 0 0, .slice none 0 0] 101) = w4 at *
    have z4 := hn4.size
    have bP_4 := hn4.bk bP_3
    have oC_4 := Lib.hid ((⟨oC_3.out.1.new (by omega) hn4, oC_3.out.2.1.new (by omega) hn4, oC_3.out.2.2.new (by omega) hn4⟩ : _ ∧ _ ∧ _))
    have K4 := K3.nw hn4
    have r4 := r3.nw hn4
    clear cP0 cP1 cP2 lP
    clear bP_3 oC_3 K3 r3 hn4
    obtain ⟨cP0, cP1, cP2⟩ := cells3 bP_4
    have lP := heap_lt bP_4
    refine hK.out _ _ ?_ (fun hHeld2 => ?_)
    · exact ⟨cP0, cP1, cP2⟩
    clear hK K hHeld
    have hHeld := hHeld2
    clear hHeld2
    try simp only [AP]
    refine AnyK.step (i := 3) (by kernel_rfl) rfl (fun K hK => ?_)
    go_simp
    refine (DrawM.l3Memory w4 br (q) a1 a2 a3 xa.length d1 xb.length d2 l.length d3 r4 (by omega) (by omega) (by omega)).mono ?_
    rintro e w5 ⟨u1, u2, za, zb, q3, rfl, hn5, r5, hq3, hM1, hz1, hz2, hz3⟩
    have z5 := hn5.size
    have bP_5 := hn5.bo bP_4
    have bQ_5 := hn5.bo bQ_4
    have oC_5 := Lib.hid ((⟨oC_4.out.1.kp hn5 (by omega) (fun b e => by omega), oC_4.out.2.1.kp hn5 (by omega) (fun b e => by omega), oC_4.out.2.2.kp hn5 (by omega) (fun b e => by omega)⟩ : _ ∧ _ ∧ _))
    have K5 := K4.trans hn5
    clear cP0 cP1 cP2 lP
    clear bP_4 bQ_4 oC_4 K4 r4 hn5
    have oM_5 := Lib.hid hM1
    clear hM1 hz3
    obtain ⟨cP0, cP1, cP2⟩ := cells3 bP_5
    have lP := heap_lt bP_5
    refine hK.out _ _ ?_ (fun hHeld2 => ?_)
    · exact ⟨cP0, cP1, cP2⟩
    clear hK K hHeld
    have hHeld := hHeld2
    clear hHeld2
    try simp only [AP]
    refine AnyK.step (i := 4) (by kernel_rfl) rfl (fun K hK => ?_)
    go_simp
    refine (RuM.specR oC_5.out.1 oC_5.out.2.1 oC_5.out.2.2 oM_5.out (by omega) (by omega) (by omega) (by omega) (by omega)).mono ?_
    rintro e w6 ⟨aU, nU, dU, aV, nV, dV, ev, lE, ok, rfl, hn6, hE, hlE⟩
    have z6 := hn6.size
    have bP_6 := hn6.bk bP_5
    have bQ_6 := hn6.bk bQ_5
    have K6 := K5.nw hn6
    have r6 := r5.nw hn6
    clear cP0 cP1 cP2 lP
    clear bP_5 bQ_5 K5 r5 hn6
    have oE_6 := Lib.hid hE
    clear hE
    obtain ⟨cP0, cP1, cP2⟩ := cells3 bP_6
    have lP := heap_lt bP_6
    refine hK.out _ _ ?_ (fun hHeld2 => ?_)
    · exact ⟨cP0, cP1, cP2⟩
    clear hK K hHeld
    have hHeld := hHeld2
    clear hHeld2
    try simp only [AP]
    refine AnyK.tw 5 rfl ?_
    try simp only [AP]
    refine AnyK.tw 6 rfl ?_
    try simp only [AP]
    refine AnyK.tw 7 rfl ?_
    try simp only [AP]
    refine AnyK.tw 8 rfl ?_
    try simp only [AP]
    refine AnyK.last (by kernel_rfl) ?_
    simp only [List.drop_succ_cons, List.drop_zero]
    clear hHeld
    clear cP0 cP1 cP2 lP
    obtain ⟨cQ0, cQ1⟩ := cells2 bQ_6
    have fQ := frozen_of_heap bQ_6
    have lQ := heap_lt bQ_6
    have kz : Kp (fun c => c = w3.heap.size) w6 ((w6.setCell ⟨w3.heap.size, 0, none⟩ (.slice aU nU dU)).setCell ⟨w3.heap.size, 1, none⟩ (.slice aV nV dV)) := ((Kp.refl (fun c => c = w3.heap.size) _).setCell (.inl rfl) _).setCell (.inl rfl) _
    have zz := kz.size
    have hE2 := Lib.hid ((oE_6.out.kp kz fun c e1 e2 => by subst e2; exact OwnF.box oE_6.out bQ_6 (by decide) e1).up (base' := w.heap.size) fun b hb => by have := (oE_6.out.lt b hb).1; omega)
    have K9 := Lib.hid (one_on K6 kz (by omega))
    have r9 := Lib.hid (r6.keep kz (fun i e => by omega))
    clear kz oE_6 K6 r6 bP_6 bQ_6
    go_upto_region 3 with fail
    generalize ((w6.setCell ⟨w3.heap.size, 0, none⟩ (.slice aU nU dU)).setCell ⟨w3.heap.size, 1, none⟩ (.slice aV nV dV)) = wz at *
    clear cQ0 cQ1 fQ lQ
    have kA : New wz (wz.alloc (.cells #[] 54)) := (Kp.refl _ _).alloc _
    have hO := Lib.hid (OwnF.empty (α := Ev) (n := 2) (enc := encE) wz 54 (base := wz.heap.size) (Nat.le_refl _))
    have hEA := Lib.hid (hE2.out.new kA)
    have KA := Lib.hid (one_new K9.out kA (fun _ f => f.elim))
    have rA := Lib.hid (r9.out.keep kA (fun _ f => f.elim))
    have hbz := r9.out.lt
    have zA : w.heap.size ≤ wz.heap.size := K9.out.size
    obtain ⟨aE, dE, hEe, _⟩ := hE2.out.reads.len
    subst hEe
    go_wp2_with (at_builtin; refine wpList_pushesN rfl _ _ 25 rfl wz.heap.size 54 _ 16 Tryd.underlying25 EvI.infoE rfl (by decide) _ [] rfl hO.out _ lE rfl hEA.out.reads (fun q _ => EvI.oneE q) ?ca ?cb ?cc ?_)
    case ca => simp; omega
    case cb => simp; omega
    case cc => simp
    intro ev4 w4 hv4 hk4 ha4
    have hown : ∀ b, (Value.slice (some ⟨wz.heap.size, 0, none⟩) 0 0).ownBlock = some b → b = wz.heap.size := fun b e => by simpa [Value.ownBlock] using e.symm
    have K4 := Lib.hid (one_new KA.out hk4 (fun b e => by have := hown b e; omega))
    have r4 := Lib.hid (rA.out.keep hk4 (fun b e => by have := hown b e; omega))
    have hv4h := Lib.hid (hv4.up (base' := w.heap.size) fun b hb => by have := (hv4.lt b hb).1; omega)
    obtain ⟨aF, dF, hF, _⟩ := hv4.reads.len
    subst hF
    clear hv4 hk4 ha4 hO hEA KA rA hE2 K9 r9 kA
    go_wp2
    refine bodyPost_ret (RuS.results_tmp1 rfl _ _) rfl ?_
    exact ⟨_, lE, _, rfl, K4.out, r4.out, by omega, hv4h.out, by omega⟩
end Go.Proofs.YtckikiaockkmbaaDoor.DrawJ
