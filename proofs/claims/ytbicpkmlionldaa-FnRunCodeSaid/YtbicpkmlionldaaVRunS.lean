/- RunCode of the reference. Conditions: bounds on the lengths. -/
import Derived.Test.YtbicpkmlionldaaVRunC
import Derived.Test.YtbicpkmlionldaaVStepX
import Derived.Deep.RegionHeld3
import Derived.Test.YtbicpkmlionldaaVP1
namespace Go.Proofs.Ytbicpkmlionldaa
open Go
/-- three may come -/
theorem AnyK.three {P : Program} {ops : Array Oper} {Q : Exit → Act → World → Prop} {md : Region.Mode} {S : World → Prop} {k : Nat} {i j q : Nat} {oi oj oq : Oper} {f : Nat} {listed : Array Bool} {a : Act} {w : World} (hr : Region.ready md ops listed = [i, j, q]) (hi : ops[i]? = some oi) (hj : ops[j]? = some oj) (hq : ops[q]? = some oq)
    (h1 : ∀ K' : Act → World → Prop, Shut (∀ a w, S w → (S w → AnyK P md ops Q S k f (listed.setIfInBounds i true) a w) → K' a w) → if Region.wanted oi (yielded ops a.tmps) = true then Oper.wp P oi a w K' Q else K' (a.put oi.dst undef) w)
    (h2 : ∀ K' : Act → World → Prop, Shut (∀ a w, S w → (S w → AnyK P md ops Q S k f (listed.setIfInBounds j true) a w) → K' a w) → if Region.wanted oj (yielded ops a.tmps) = true then Oper.wp P oj a w K' Q else K' (a.put oj.dst undef) w)
    (h3 : ∀ K' : Act → World → Prop, Shut (∀ a w, S w → (S w → AnyK P md ops Q S k f (listed.setIfInBounds q true) a w) → K' a w) → if Region.wanted oq (yielded ops a.tmps) = true then Oper.wp P oq a w K' Q else K' (a.put oq.dst undef) w) :
    AnyK P md ops Q S k (f + 1) listed a w := by
  refine ⟨fun h0 => (by rw [hr] at h0; cases h0), fun z hz => ?_⟩
  rw [hr, List.mem_cons, List.mem_cons, List.mem_singleton] at hz
  rcases hz with rfl | rfl | rfl
  · exact wpOp_step hi (fun K' hK => h1 K' (fun a w hS hW => hK a w ⟨fun _ => hS, hW hS⟩))
  · exact wpOp_step hj (fun K' hK => h2 K' (fun a w hS hW => hK a w ⟨fun _ => hS, hW hS⟩))
  · exact wpOp_step hq (fun K' hK => h3 K' (fun a w hS hW => hK a w ⟨fun _ => hS, hW hS⟩))
end Go.Proofs.Ytbicpkmlionldaa
namespace Go.Proofs.Ytbicpkmlionldaa.RunS
open Go.RowKit Kit Step StepK Val MarkC RunP RunC StartM StepH
set_option linter.unusedVariables false
theorem slice_form {w : World} {lo hi : Nat} {v : Value} {l : List Ev} (h : EvsR w lo hi v l) : ∃ a n d, v = .slice a n d := by obtain ⟨a, d, e, _⟩ := h.len; exact ⟨_, _, _, e⟩
/-- the machine's variable and its memory at the start -/
def Born (w wd : World) (bs lo hi : Nat) (a6 a7 a8 : Option Addr) (d6 d7 d8 : Nat) (vc : Array Value) (ya : List Int) (yb : List (List Int)) : Prop := New w wd ∧ wd.heap[w.heap.size]? = some (.cells vc 26 (0, 0)) ∧ wd.heap[w.heap.size + 1 + 1]? = some (.cells #[.slice none 0 0, .slice none 0 0] 29 (0, 0)) ∧
  wd.heap[bs]? = some (.cells #[.int .i64 ((0 : Nat) : Int), .slice a6 zeros.length d6, .slice a7 ya.length d7, .slice a8 yb.length d8] 38 (0, 0)) ∧ MachH wd lo hi bs (.slice a6 zeros.length d6) (.slice a7 ya.length d7) (.slice a8 yb.length d8) zeros ya yb ∧ w.heap.size + 1 + 1 < bs ∧ w.heap.size + 1 + 1 < lo ∧ hi ≤ wd.heap.size
/-- the state behind k rounds -/
def Going (w : World) (bs lo hi B nv na : Nat) (vr va vb : Value) (vc : Array Value) (x : List Ins) (k n : Nat) (r : Option (Ms × List Ev)) (v : Value) (wr : World) : Prop := ∃ (p : Nat) (yr ya : List Int) (yb : List (List Int)) (t : List Ev), p < x.length ∧ Okm nv na x.length ⟨p, yr, ya, yb⟩ ∧ run x n ⟨p, yr, ya, yb⟩ t = r ∧ t.length ≤ 2 * k ∧ New w wr ∧ B ≤ wr.heap.size ∧
  wr.heap[w.heap.size]? = some (.cells vc 26 (0, 0)) ∧ wr.heap[w.heap.size + 1 + 1]? = some (.cells #[.slice none 0 0, .slice none 0 0] 29 (0, 0)) ∧ wr.heap[bs]? = some (.cells #[.int .i64 p, vr, va, vb] 38 (0, 0)) ∧ MachH wr lo hi bs vr va vb yr ya yb ∧ OwnF 2 encE wr B 68 v t
set_option maxHeartbeats 16000000 in
set_option maxRecDepth 100000 in
theorem l6Run (w : World) (lo hi lo' hi' : Nat) (ta tb tc ma mb : Value) (xa xb ya : List Int) (x : List Ins) (yb : List (List Int)) (sa : IntsR w lo hi ta xa) (sb : IntsR w lo hi tb xb) (s : InssR w lo hi tc x) (h1 : hi ≤ w.heap.size) (ra : IntsR w lo' hi' ma ya) (rb : MatR w lo' hi' mb yb) (h2 : hi' ≤ w.heap.size)
    (m0 : ya.length ≤ 1099511627776) (m1 : yb.length ≤ 1073741824) (m2 : ∀ x ∈ yb, x.length ≤ 1099511627776) (hcx : Okc ya.length yb.length x) (hk : Okm ya.length yb.length x.length ⟨((0 : Nat) : Int), zeros, ya, yb⟩) (hyb : yb.length ≤ 2) :
    Calls Try.prog 22 #[.agg #[ta, tb, tc], .agg #[ma, mb], .int .i64 20000] w (Ret w (run x 20000 ⟨((0 : Nat) : Int), zeros, ya, yb⟩ [])) := by
  obtain ⟨a1, d1, rfl, l1⟩ := sa.len
  obtain ⟨a2, d2, rfl, l2⟩ := sb.len
  obtain ⟨a3, d3, rfl, l3⟩ := s.len
  obtain ⟨a4, d4, rfl, l4⟩ := ra.len
  obtain ⟨a5, d5, rfl, l5⟩ := rb.len
  obtain ⟨bc, oc, rfl, hbc1, hbc2, hcc⟩ := s.at 0 hcx.pos
  clear hcc
  have hsa := Lib.hid sa
  have hsb := Lib.hid sb
  have hs := Lib.hid s
  have hra := Lib.hid ra
  have hrb := Lib.hid rb
  clear sa sb s ra rb
  have hch := Lib.hid hcx
  have hkh := Lib.hid hk
  have hxl := hcx.len
  have hp0 := hcx.pos
  clear hcx hk
  have hmk : ∀ w : World, (Instr.makeSlice 23 (.int .i64 14) (.int .i64 14)).run Try.prog w = .ok (.slice (some ⟨w.heap.size, 0, none⟩) 14 14) (w.alloc (.cells (mkCells (.int .i64 0) 1 14) 3)) := fun w => run_mk (P := Try.prog) _ _ _ _ _ Try.underlying23 LawF.infoI 14 (by omega) (by omega) w
  go_enter Try.func22, Try.ntmps22
  go_wp2_with fail
  have N0 : New w (((w.alloc (.cells #[.slice a1 xa.length d1, .slice a2 xb.length d2, .slice (some ⟨bc, oc, none⟩) x.length d3] 26)).alloc (.cells #[.slice a4 ya.length d4, .slice a5 yb.length d5] 29)).alloc (.cells #[.slice none 0 0, .slice none 0 0] 29)) := ((((Kp.refl _ _).alloc _).alloc _).alloc _)
  have bC_0 : (((w.alloc (.cells #[.slice a1 xa.length d1, .slice a2 xb.length d2, .slice (some ⟨bc, oc, none⟩) x.length d3] 26)).alloc (.cells #[.slice a4 ya.length d4, .slice a5 yb.length d5] 29)).alloc (.cells #[.slice none 0 0, .slice none 0 0] 29)).heap[w.heap.size]? = some (.cells #[.slice a1 xa.length d1, .slice a2 xb.length d2, .slice (some ⟨bc, oc, none⟩) x.length d3] 26) := heap_old (heap_old (alloc_heap _ _))
  have bM_0 : (((w.alloc (.cells #[.slice a1 xa.length d1, .slice a2 xb.length d2, .slice (some ⟨bc, oc, none⟩) x.length d3] 26)).alloc (.cells #[.slice a4 ya.length d4, .slice a5 yb.length d5] 29)).alloc (.cells #[.slice none 0 0, .slice none 0 0] 29)).heap[w.heap.size + 1]? = some (.cells #[.slice a4 ya.length d4, .slice a5 yb.length d5] 29) := heap_old (heap_at (by simp))
  have bR_0 : (((w.alloc (.cells #[.slice a1 xa.length d1, .slice a2 xb.length d2, .slice (some ⟨bc, oc, none⟩) x.length d3] 26)).alloc (.cells #[.slice a4 ya.length d4, .slice a5 yb.length d5] 29)).alloc (.cells #[.slice none 0 0, .slice none 0 0] 29)).heap[w.heap.size + 1 + 1]? = some (.cells #[.slice none 0 0, .slice none 0 0] 29) := heap_at (by simp)
  have z0 : w.heap.size + 1 + 1 < (((w.alloc (.cells #[.slice a1 xa.length d1, .slice a2 xb.length d2, .slice (some ⟨bc, oc, none⟩) x.length d3] 26)).alloc (.cells #[.slice a4 ya.length d4, .slice a5 yb.length d5] 29)).alloc (.cells #[.slice none 0 0, .slice none 0 0] 29)).heap.size := by simp
  generalize (((w.alloc (.cells #[.slice a1 xa.length d1, .slice a2 xb.length d2, .slice (some ⟨bc, oc, none⟩) x.length d3] 26)).alloc (.cells #[.slice a4 ya.length d4, .slice a5 yb.length d5] 29)).alloc (.cells #[.slice none 0 0, .slice none 0 0] 29)) = w0 at *
  have hn1 : New w0 w0.drew := (Kp.refl _ _).drew
  have z1 := hn1.size
  have N1 : New w w0.drew := N0.trans hn1
  have bC_1 := heap_new hn1 bC_0
  have bM_1 := heap_new hn1 bM_0
  have bR_1 := heap_new hn1 bR_0
  clear bC_0 bM_0 bR_0 hn1
  obtain ⟨bM_1_c0, bM_1_c1⟩ := cells2 bM_1
  go_cut [9] (fun p9 wx => ∃ bs l4 h4 a6 a7 a8 d6 d7 d8, p9 = .pointer (some ⟨bs, 0, none⟩) ∧ Born w wx bs l4 h4 a6 a7 a8 d6 d7 d8 #[.slice a1 xa.length d1, .slice a2 xb.length d2, .slice (some ⟨bc, oc, none⟩) x.length d3] ya yb)
  case first =>
    as_aux_lemma =>
      refine wp_region_tail (k := 5) (S := fun w' => w'.cell? ⟨w.heap.size + 1, 0, none⟩ = some (.slice a4 ya.length d4) ∧ w'.cell? ⟨w.heap.size + 1, 1, none⟩ = some (.slice a5 yb.length d5)) (by kernel_rfl) ?_ (fun hHeld => ?_)
      · exact ⟨bM_1_c0, bM_1_c1⟩
      refine AnyK.tk 1 rfl ?_
      try simp only [AP]
      refine AnyK.three (i := 0) (j := 2) (q := 4) (by kernel_rfl) rfl rfl rfl (fun K hK => ?_) (fun K hK => ?_) (fun K hK => ?_)
      · go_simp
        have hnm1 : New w0.drew (w0.alloc (.cells (mkCells (.int .i64 0) 1 14) 3)).drew := (show New w0.drew (w0.drew.alloc (.cells (mkCells (.int .i64 0) 1 14) 3)) from (Kp.refl _ _).alloc _)
        have zm1 : w0.drew.heap.size < (w0.alloc (.cells (mkCells (.int .i64 0) 1 14) 3)).drew.heap.size := (show w0.drew.heap.size < (w0.drew.alloc (.cells (mkCells (.int .i64 0) 1 14) 3)).heap.size from Rec.lt_alloc _ _)
        have Nm1 := N1.trans hnm1
        have hz0m1 := Lib.hid (show OwnF 1 encI (w0.alloc (.cells (mkCells (.int .i64 0) 1 14) 3)).drew w0.heap.size 3 (.slice (some ⟨w0.heap.size, 0, none⟩) 14 14) zeros from zeros_own w0.drew)
        have bCm1 := heap_new hnm1 bC_1
        have bMm1 := heap_new hnm1 bM_1
        have bRm1 := heap_new hnm1 bR_1
        generalize (w0.alloc (.cells (mkCells (.int .i64 0) 1 14) 3)).drew = wm1 at *
        obtain ⟨m1M0, m1M1⟩ := cells2 bMm1
        refine hK.out _ _ ?_ (fun hHeld2 => ?_)
        · exact ⟨m1M0, m1M1⟩
        clear hK K hHeld
        have hHeld := hHeld2
        clear hHeld2
        try simp only [AP]
        refine AnyK.two (i := 2) (j := 4) (by kernel_rfl) rfl rfl (fun K hK => ?_) (fun K hK => ?_)
        · go_simp
          refine (CopyM.l3Copy _ lo' hi' _ _ _ _ (hra.out.new h2 Nm1) (hrb.out.new h2 Nm1) (by have := Nm1.size; omega) m0 m1 m2).mono ?_
          rintro e wc2 ⟨u1, u2, rfl, hnc2, hq⟩
          obtain ⟨⟨a7, d7, e7⟩, a8, d8, e8⟩ := hq.lens
          subst e7; subst e8
          have hqc2 := Lib.hid hq
          clear hq
          have zc2 := hnc2.size
          have Nc2 := Nm1.trans hnc2
          have bCc2 := heap_new hnc2 bCm1
          have bMc2 := heap_new hnc2 bMm1
          have bRc2 := heap_new hnc2 bRm1
          have hzc2 := Lib.hid (hz0m1.out.new hnc2)
          obtain ⟨c2M0, c2M1⟩ := cells2 bMc2
          refine hK.out _ _ ?_ (fun hHeld2 => ?_)
          · exact ⟨c2M0, c2M1⟩
          clear hK K hHeld
          have hHeld := hHeld2
          clear hHeld2
          try simp only [AP]
          refine AnyK.tw 3 rfl ?_
          try simp only [AP]
          refine AnyK.step (i := 4) (by kernel_rfl) rfl (fun K hK => ?_)
          go_simp
          have hnl3 : New wc2 (wc2.alloc (.cells #[.int .i64 0, .slice none 0 0, .slice none 0 0, .slice none 0 0] 38)) := (show New wc2 (wc2.alloc (.cells #[.int .i64 0, .slice none 0 0, .slice none 0 0, .slice none 0 0] 38)) from (Kp.refl _ _).alloc _)
          have zl3 : wc2.heap.size < (wc2.alloc (.cells #[.int .i64 0, .slice none 0 0, .slice none 0 0, .slice none 0 0] 38)).heap.size := (show wc2.heap.size < (wc2.alloc (.cells #[.int .i64 0, .slice none 0 0, .slice none 0 0, .slice none 0 0] 38)).heap.size from Rec.lt_alloc _ _)
          have Nl3 := Nc2.trans hnl3
          have bCl3 := heap_new hnl3 bCc2
          have bMl3 := heap_new hnl3 bMc2
          have bRl3 := heap_new hnl3 bRc2
          have hzl3 := Lib.hid (hzc2.out.new hnl3)
          have hyl3 := Lib.hid (hqc2.out.new (by omega) hnl3)
          have bBl3 : (wc2.alloc (.cells #[.int .i64 0, .slice none 0 0, .slice none 0 0, .slice none 0 0] 38)).heap[wc2.heap.size]? = some (.cells #[.int .i64 0, .slice none 0 0, .slice none 0 0, .slice none 0 0] 38) := (show (wc2.alloc (.cells #[.int .i64 0, .slice none 0 0, .slice none 0 0, .slice none 0 0] 38)).heap[wc2.heap.size]? = _ from alloc_heap _ _)
          generalize (wc2.alloc (.cells #[.int .i64 0, .slice none 0 0, .slice none 0 0, .slice none 0 0] 38)) = wl3 at *
          obtain ⟨l3M0, l3M1⟩ := cells2 bMl3
          refine hK.out _ _ ?_ (fun hHeld2 => ?_)
          · exact ⟨l3M0, l3M1⟩
          clear hK K hHeld
          have hHeld := hHeld2
          clear hHeld2
          try simp only [AP]
          refine AnyK.last (by kernel_rfl) ?_
          simp only [List.drop_succ_cons, List.drop_zero]
          clear hHeld
          obtain ⟨e0, e1, e2, e3⟩ := cells4 bBl3
          have ef := frozen_of_heap bBl3
          have bl := heap_lt bBl3
          have zw : w0.drew.heap.size = w0.heap.size := rfl
          have zt := (hzl3.out.lt w0.heap.size (by simp [Value.ownBlock])).2
          go_wp2
          go_meet
          have hkz := setMany_kp (wc2.heap.size) [.int .i64 0, .slice (some ⟨w0.heap.size, 0, none⟩) 14 14, .slice a7 ya.length d7, .slice a8 yb.length d8] wl3 0
          have zs := setMany_size (wc2.heap.size) [.int .i64 0, .slice (some ⟨w0.heap.size, 0, none⟩) 14 14, .slice a7 ya.length d7, .slice a8 yb.length d8] wl3 0
          have hR := setMany_row [.int .i64 0, .slice (some ⟨w0.heap.size, 0, none⟩) 14 14, .slice a7 ya.length d7, .slice a8 yb.length d8] bBl3 rfl
          have oM := hyl3.out.kp hkz (fun b e => by omega)
          have oZ := hzl3.out.kp hkz (fun b hb e => by simp [Value.ownBlock] at hb; omega)
          have hqs : w.heap.size + 1 + 1 < wc2.heap.size := by omega
          have hH : MachH (setMany wl3 (wc2.heap.size) 0 [.int .i64 0, .slice (some ⟨w0.heap.size, 0, none⟩) 14 14, .slice a7 ya.length d7, .slice a8 yb.length d8]) (w.heap.size + 1 + 1 + 1) (setMany wl3 (wc2.heap.size) 0 [.int .i64 0, .slice (some ⟨w0.heap.size, 0, none⟩) 14 14, .slice a7 ya.length d7, .slice a8 yb.length d8]).heap.size (wc2.heap.size) (.slice (some ⟨w0.heap.size, 0, none⟩) 14 14) (.slice a7 ya.length d7) (.slice a8 yb.length d8) zeros ya yb := ⟨w0.heap.size, w0.heap.size + 1, wm1.heap.size, wc2.heap.size, by omega, by omega, by omega, by omega, by omega, by omega, by omega, ⟨oZ, fun b hb => by simp [Value.ownBlock] at hb; omega⟩, oM⟩
          exact ⟨wc2.heap.size, _, _, _, _, _, _, _, _, rfl, New.one Nl3 hkz (by omega), setMany_other [.int .i64 0, .slice (some ⟨w0.heap.size, 0, none⟩) 14 14, .slice a7 ya.length d7, .slice a8 yb.length d8] 0 bCl3 (by omega), setMany_other [.int .i64 0, .slice (some ⟨w0.heap.size, 0, none⟩) 14 14, .slice a7 ya.length d7, .slice a8 yb.length d8] 0 bRl3 (by omega), hR, hH, by omega, by omega, Nat.le_refl _⟩
        · go_simp
          have hnl4 : New wm1 (wm1.alloc (.cells #[.int .i64 0, .slice none 0 0, .slice none 0 0, .slice none 0 0] 38)) := (show New wm1 (wm1.alloc (.cells #[.int .i64 0, .slice none 0 0, .slice none 0 0, .slice none 0 0] 38)) from (Kp.refl _ _).alloc _)
          have zl4 : wm1.heap.size < (wm1.alloc (.cells #[.int .i64 0, .slice none 0 0, .slice none 0 0, .slice none 0 0] 38)).heap.size := (show wm1.heap.size < (wm1.alloc (.cells #[.int .i64 0, .slice none 0 0, .slice none 0 0, .slice none 0 0] 38)).heap.size from Rec.lt_alloc _ _)
          have Nl4 := Nm1.trans hnl4
          have bCl4 := heap_new hnl4 bCm1
          have bMl4 := heap_new hnl4 bMm1
          have bRl4 := heap_new hnl4 bRm1
          have hzl4 := Lib.hid (hz0m1.out.new hnl4)
          have bBl4 : (wm1.alloc (.cells #[.int .i64 0, .slice none 0 0, .slice none 0 0, .slice none 0 0] 38)).heap[wm1.heap.size]? = some (.cells #[.int .i64 0, .slice none 0 0, .slice none 0 0, .slice none 0 0] 38) := (show (wm1.alloc (.cells #[.int .i64 0, .slice none 0 0, .slice none 0 0, .slice none 0 0] 38)).heap[wm1.heap.size]? = _ from alloc_heap _ _)
          generalize (wm1.alloc (.cells #[.int .i64 0, .slice none 0 0, .slice none 0 0, .slice none 0 0] 38)) = wl4 at *
          obtain ⟨l4M0, l4M1⟩ := cells2 bMl4
          refine hK.out _ _ ?_ (fun hHeld2 => ?_)
          · exact ⟨l4M0, l4M1⟩
          clear hK K hHeld
          have hHeld := hHeld2
          clear hHeld2
          try simp only [AP]
          refine AnyK.step (i := 2) (by kernel_rfl) rfl (fun K hK => ?_)
          go_simp
          refine (CopyM.l3Copy _ lo' hi' _ _ _ _ (hra.out.new h2 Nl4) (hrb.out.new h2 Nl4) (by have := Nl4.size; omega) m0 m1 m2).mono ?_
          rintro e wc5 ⟨u1, u2, rfl, hnc5, hq⟩
          obtain ⟨⟨a7, d7, e7⟩, a8, d8, e8⟩ := hq.lens
          subst e7; subst e8
          have hqc5 := Lib.hid hq
          clear hq
          have zc5 := hnc5.size
          have Nc5 := Nl4.trans hnc5
          have bCc5 := heap_new hnc5 bCl4
          have bMc5 := heap_new hnc5 bMl4
          have bRc5 := heap_new hnc5 bRl4
          have bBc5 := heap_new hnc5 bBl4
          have hzc5 := Lib.hid (hzl4.out.new hnc5)
          obtain ⟨c5M0, c5M1⟩ := cells2 bMc5
          refine hK.out _ _ ?_ (fun hHeld2 => ?_)
          · exact ⟨c5M0, c5M1⟩
          clear hK K hHeld
          have hHeld := hHeld2
          clear hHeld2
          try simp only [AP]
          refine AnyK.tw 3 rfl ?_
          try simp only [AP]
          refine AnyK.last (by kernel_rfl) ?_
          simp only [List.drop_succ_cons, List.drop_zero]
          clear hHeld
          obtain ⟨e0, e1, e2, e3⟩ := cells4 bBc5
          have ef := frozen_of_heap bBc5
          have bl := heap_lt bBc5
          have zw : w0.drew.heap.size = w0.heap.size := rfl
          have zt := (hzc5.out.lt w0.heap.size (by simp [Value.ownBlock])).2
          go_wp2
          go_meet
          have hkz := setMany_kp (wm1.heap.size) [.int .i64 0, .slice (some ⟨w0.heap.size, 0, none⟩) 14 14, .slice a7 ya.length d7, .slice a8 yb.length d8] wc5 0
          have zs := setMany_size (wm1.heap.size) [.int .i64 0, .slice (some ⟨w0.heap.size, 0, none⟩) 14 14, .slice a7 ya.length d7, .slice a8 yb.length d8] wc5 0
          have hR := setMany_row [.int .i64 0, .slice (some ⟨w0.heap.size, 0, none⟩) 14 14, .slice a7 ya.length d7, .slice a8 yb.length d8] bBc5 rfl
          have oM := hqc5.out.kp hkz (fun b e => by omega)
          have oZ := hzc5.out.kp hkz (fun b hb e => by simp [Value.ownBlock] at hb; omega)
          have hqs : w.heap.size + 1 + 1 < wm1.heap.size := by omega
          have hH : MachH (setMany wc5 (wm1.heap.size) 0 [.int .i64 0, .slice (some ⟨w0.heap.size, 0, none⟩) 14 14, .slice a7 ya.length d7, .slice a8 yb.length d8]) (w.heap.size + 1 + 1 + 1) (setMany wc5 (wm1.heap.size) 0 [.int .i64 0, .slice (some ⟨w0.heap.size, 0, none⟩) 14 14, .slice a7 ya.length d7, .slice a8 yb.length d8]).heap.size (wm1.heap.size) (.slice (some ⟨w0.heap.size, 0, none⟩) 14 14) (.slice a7 ya.length d7) (.slice a8 yb.length d8) zeros ya yb := ⟨w0.heap.size, w0.heap.size + 1, wl4.heap.size, wc5.heap.size, by omega, by omega, by omega, by omega, by omega, by omega, by omega, ⟨oZ, fun b hb => by simp [Value.ownBlock] at hb; omega⟩, oM⟩
          exact ⟨wm1.heap.size, _, _, _, _, _, _, _, _, rfl, New.one Nc5 hkz (by omega), setMany_other [.int .i64 0, .slice (some ⟨w0.heap.size, 0, none⟩) 14 14, .slice a7 ya.length d7, .slice a8 yb.length d8] 0 bCc5 (by omega), setMany_other [.int .i64 0, .slice (some ⟨w0.heap.size, 0, none⟩) 14 14, .slice a7 ya.length d7, .slice a8 yb.length d8] 0 bRc5 (by omega), hR, hH, by omega, by omega, Nat.le_refl _⟩
      · go_simp
        refine (CopyM.l3Copy _ lo' hi' _ _ _ _ (hra.out.new h2 N1) (hrb.out.new h2 N1) (by have := N1.size; omega) m0 m1 m2).mono ?_
        rintro e wc6 ⟨u1, u2, rfl, hnc6, hq⟩
        obtain ⟨⟨a7, d7, e7⟩, a8, d8, e8⟩ := hq.lens
        subst e7; subst e8
        have hqc6 := Lib.hid hq
        clear hq
        have zc6 := hnc6.size
        have Nc6 := N1.trans hnc6
        have bCc6 := heap_new hnc6 bC_1
        have bMc6 := heap_new hnc6 bM_1
        have bRc6 := heap_new hnc6 bR_1
        obtain ⟨c6M0, c6M1⟩ := cells2 bMc6
        refine hK.out _ _ ?_ (fun hHeld2 => ?_)
        · exact ⟨c6M0, c6M1⟩
        clear hK K hHeld
        have hHeld := hHeld2
        clear hHeld2
        try simp only [AP]
        refine AnyK.two (i := 0) (j := 4) (by kernel_rfl) rfl rfl (fun K hK => ?_) (fun K hK => ?_)
        · go_simp
          have hnm7 : New wc6 (wc6.alloc (.cells (mkCells (.int .i64 0) 1 14) 3)) := (show New wc6 (wc6.alloc (.cells (mkCells (.int .i64 0) 1 14) 3)) from (Kp.refl _ _).alloc _)
          have zm7 : wc6.heap.size < (wc6.alloc (.cells (mkCells (.int .i64 0) 1 14) 3)).heap.size := (show wc6.heap.size < (wc6.alloc (.cells (mkCells (.int .i64 0) 1 14) 3)).heap.size from Rec.lt_alloc _ _)
          have Nm7 := Nc6.trans hnm7
          have hz0m7 := Lib.hid (show OwnF 1 encI (wc6.alloc (.cells (mkCells (.int .i64 0) 1 14) 3)) wc6.heap.size 3 (.slice (some ⟨wc6.heap.size, 0, none⟩) 14 14) zeros from zeros_own wc6)
          have bCm7 := heap_new hnm7 bCc6
          have bMm7 := heap_new hnm7 bMc6
          have bRm7 := heap_new hnm7 bRc6
          have hym7 := Lib.hid (hqc6.out.new (by omega) hnm7)
          generalize (wc6.alloc (.cells (mkCells (.int .i64 0) 1 14) 3)) = wm7 at *
          obtain ⟨m7M0, m7M1⟩ := cells2 bMm7
          refine hK.out _ _ ?_ (fun hHeld2 => ?_)
          · exact ⟨m7M0, m7M1⟩
          clear hK K hHeld
          have hHeld := hHeld2
          clear hHeld2
          try simp only [AP]
          refine AnyK.tw 3 rfl ?_
          try simp only [AP]
          refine AnyK.step (i := 4) (by kernel_rfl) rfl (fun K hK => ?_)
          go_simp
          have hnl8 : New wm7 (wm7.alloc (.cells #[.int .i64 0, .slice none 0 0, .slice none 0 0, .slice none 0 0] 38)) := (show New wm7 (wm7.alloc (.cells #[.int .i64 0, .slice none 0 0, .slice none 0 0, .slice none 0 0] 38)) from (Kp.refl _ _).alloc _)
          have zl8 : wm7.heap.size < (wm7.alloc (.cells #[.int .i64 0, .slice none 0 0, .slice none 0 0, .slice none 0 0] 38)).heap.size := (show wm7.heap.size < (wm7.alloc (.cells #[.int .i64 0, .slice none 0 0, .slice none 0 0, .slice none 0 0] 38)).heap.size from Rec.lt_alloc _ _)
          have Nl8 := Nm7.trans hnl8
          have bCl8 := heap_new hnl8 bCm7
          have bMl8 := heap_new hnl8 bMm7
          have bRl8 := heap_new hnl8 bRm7
          have hzl8 := Lib.hid (hz0m7.out.new hnl8)
          have hyl8 := Lib.hid (hym7.out.new (by omega) hnl8)
          have bBl8 : (wm7.alloc (.cells #[.int .i64 0, .slice none 0 0, .slice none 0 0, .slice none 0 0] 38)).heap[wm7.heap.size]? = some (.cells #[.int .i64 0, .slice none 0 0, .slice none 0 0, .slice none 0 0] 38) := (show (wm7.alloc (.cells #[.int .i64 0, .slice none 0 0, .slice none 0 0, .slice none 0 0] 38)).heap[wm7.heap.size]? = _ from alloc_heap _ _)
          generalize (wm7.alloc (.cells #[.int .i64 0, .slice none 0 0, .slice none 0 0, .slice none 0 0] 38)) = wl8 at *
          obtain ⟨l8M0, l8M1⟩ := cells2 bMl8
          refine hK.out _ _ ?_ (fun hHeld2 => ?_)
          · exact ⟨l8M0, l8M1⟩
          clear hK K hHeld
          have hHeld := hHeld2
          clear hHeld2
          try simp only [AP]
          refine AnyK.last (by kernel_rfl) ?_
          simp only [List.drop_succ_cons, List.drop_zero]
          clear hHeld
          obtain ⟨e0, e1, e2, e3⟩ := cells4 bBl8
          have ef := frozen_of_heap bBl8
          have bl := heap_lt bBl8
          have zw : w0.drew.heap.size = w0.heap.size := rfl
          have zt := (hzl8.out.lt wc6.heap.size (by simp [Value.ownBlock])).2
          go_wp2
          go_meet
          have hkz := setMany_kp (wm7.heap.size) [.int .i64 0, .slice (some ⟨wc6.heap.size, 0, none⟩) 14 14, .slice a7 ya.length d7, .slice a8 yb.length d8] wl8 0
          have zs := setMany_size (wm7.heap.size) [.int .i64 0, .slice (some ⟨wc6.heap.size, 0, none⟩) 14 14, .slice a7 ya.length d7, .slice a8 yb.length d8] wl8 0
          have hR := setMany_row [.int .i64 0, .slice (some ⟨wc6.heap.size, 0, none⟩) 14 14, .slice a7 ya.length d7, .slice a8 yb.length d8] bBl8 rfl
          have oM := hyl8.out.kp hkz (fun b e => by omega)
          have oZ := hzl8.out.kp hkz (fun b hb e => by simp [Value.ownBlock] at hb; omega)
          have hqs : w.heap.size + 1 + 1 < wm7.heap.size := by omega
          have hH : MachH (setMany wl8 (wm7.heap.size) 0 [.int .i64 0, .slice (some ⟨wc6.heap.size, 0, none⟩) 14 14, .slice a7 ya.length d7, .slice a8 yb.length d8]) (w.heap.size + 1 + 1 + 1) (setMany wl8 (wm7.heap.size) 0 [.int .i64 0, .slice (some ⟨wc6.heap.size, 0, none⟩) 14 14, .slice a7 ya.length d7, .slice a8 yb.length d8]).heap.size (wm7.heap.size) (.slice (some ⟨wc6.heap.size, 0, none⟩) 14 14) (.slice a7 ya.length d7) (.slice a8 yb.length d8) zeros ya yb := ⟨wc6.heap.size, wc6.heap.size + 1, w0.drew.heap.size, wc6.heap.size, by omega, by omega, by omega, by omega, by omega, by omega, by omega, ⟨oZ, fun b hb => by simp [Value.ownBlock] at hb; omega⟩, oM⟩
          exact ⟨wm7.heap.size, _, _, _, _, _, _, _, _, rfl, New.one Nl8 hkz (by omega), setMany_other [.int .i64 0, .slice (some ⟨wc6.heap.size, 0, none⟩) 14 14, .slice a7 ya.length d7, .slice a8 yb.length d8] 0 bCl8 (by omega), setMany_other [.int .i64 0, .slice (some ⟨wc6.heap.size, 0, none⟩) 14 14, .slice a7 ya.length d7, .slice a8 yb.length d8] 0 bRl8 (by omega), hR, hH, by omega, by omega, Nat.le_refl _⟩
        · go_simp
          have hnl9 : New wc6 (wc6.alloc (.cells #[.int .i64 0, .slice none 0 0, .slice none 0 0, .slice none 0 0] 38)) := (show New wc6 (wc6.alloc (.cells #[.int .i64 0, .slice none 0 0, .slice none 0 0, .slice none 0 0] 38)) from (Kp.refl _ _).alloc _)
          have zl9 : wc6.heap.size < (wc6.alloc (.cells #[.int .i64 0, .slice none 0 0, .slice none 0 0, .slice none 0 0] 38)).heap.size := (show wc6.heap.size < (wc6.alloc (.cells #[.int .i64 0, .slice none 0 0, .slice none 0 0, .slice none 0 0] 38)).heap.size from Rec.lt_alloc _ _)
          have Nl9 := Nc6.trans hnl9
          have bCl9 := heap_new hnl9 bCc6
          have bMl9 := heap_new hnl9 bMc6
          have bRl9 := heap_new hnl9 bRc6
          have hyl9 := Lib.hid (hqc6.out.new (by omega) hnl9)
          have bBl9 : (wc6.alloc (.cells #[.int .i64 0, .slice none 0 0, .slice none 0 0, .slice none 0 0] 38)).heap[wc6.heap.size]? = some (.cells #[.int .i64 0, .slice none 0 0, .slice none 0 0, .slice none 0 0] 38) := (show (wc6.alloc (.cells #[.int .i64 0, .slice none 0 0, .slice none 0 0, .slice none 0 0] 38)).heap[wc6.heap.size]? = _ from alloc_heap _ _)
          generalize (wc6.alloc (.cells #[.int .i64 0, .slice none 0 0, .slice none 0 0, .slice none 0 0] 38)) = wl9 at *
          obtain ⟨l9M0, l9M1⟩ := cells2 bMl9
          refine hK.out _ _ ?_ (fun hHeld2 => ?_)
          · exact ⟨l9M0, l9M1⟩
          clear hK K hHeld
          have hHeld := hHeld2
          clear hHeld2
          try simp only [AP]
          refine AnyK.step (i := 0) (by kernel_rfl) rfl (fun K hK => ?_)
          go_simp
          have hnm10 : New wl9 (wl9.alloc (.cells (mkCells (.int .i64 0) 1 14) 3)) := (show New wl9 (wl9.alloc (.cells (mkCells (.int .i64 0) 1 14) 3)) from (Kp.refl _ _).alloc _)
          have zm10 : wl9.heap.size < (wl9.alloc (.cells (mkCells (.int .i64 0) 1 14) 3)).heap.size := (show wl9.heap.size < (wl9.alloc (.cells (mkCells (.int .i64 0) 1 14) 3)).heap.size from Rec.lt_alloc _ _)
          have Nm10 := Nl9.trans hnm10
          have hz0m10 := Lib.hid (show OwnF 1 encI (wl9.alloc (.cells (mkCells (.int .i64 0) 1 14) 3)) wl9.heap.size 3 (.slice (some ⟨wl9.heap.size, 0, none⟩) 14 14) zeros from zeros_own wl9)
          have bCm10 := heap_new hnm10 bCl9
          have bMm10 := heap_new hnm10 bMl9
          have bRm10 := heap_new hnm10 bRl9
          have bBm10 := heap_new hnm10 bBl9
          have hym10 := Lib.hid (hyl9.out.new (by omega) hnm10)
          generalize (wl9.alloc (.cells (mkCells (.int .i64 0) 1 14) 3)) = wm10 at *
          obtain ⟨m10M0, m10M1⟩ := cells2 bMm10
          refine hK.out _ _ ?_ (fun hHeld2 => ?_)
          · exact ⟨m10M0, m10M1⟩
          clear hK K hHeld
          have hHeld := hHeld2
          clear hHeld2
          try simp only [AP]
          refine AnyK.tw 3 rfl ?_
          try simp only [AP]
          refine AnyK.last (by kernel_rfl) ?_
          simp only [List.drop_succ_cons, List.drop_zero]
          clear hHeld
          obtain ⟨e0, e1, e2, e3⟩ := cells4 bBm10
          have ef := frozen_of_heap bBm10
          have bl := heap_lt bBm10
          have zw : w0.drew.heap.size = w0.heap.size := rfl
          have zt := (hz0m10.out.lt wl9.heap.size (by simp [Value.ownBlock])).2
          go_wp2
          go_meet
          have hkz := setMany_kp (wc6.heap.size) [.int .i64 0, .slice (some ⟨wl9.heap.size, 0, none⟩) 14 14, .slice a7 ya.length d7, .slice a8 yb.length d8] wm10 0
          have zs := setMany_size (wc6.heap.size) [.int .i64 0, .slice (some ⟨wl9.heap.size, 0, none⟩) 14 14, .slice a7 ya.length d7, .slice a8 yb.length d8] wm10 0
          have hR := setMany_row [.int .i64 0, .slice (some ⟨wl9.heap.size, 0, none⟩) 14 14, .slice a7 ya.length d7, .slice a8 yb.length d8] bBm10 rfl
          have oM := hym10.out.kp hkz (fun b e => by omega)
          have oZ := hz0m10.out.kp hkz (fun b hb e => by simp [Value.ownBlock] at hb; omega)
          have hqs : w.heap.size + 1 + 1 < wc6.heap.size := by omega
          have hH : MachH (setMany wm10 (wc6.heap.size) 0 [.int .i64 0, .slice (some ⟨wl9.heap.size, 0, none⟩) 14 14, .slice a7 ya.length d7, .slice a8 yb.length d8]) (w.heap.size + 1 + 1 + 1) (setMany wm10 (wc6.heap.size) 0 [.int .i64 0, .slice (some ⟨wl9.heap.size, 0, none⟩) 14 14, .slice a7 ya.length d7, .slice a8 yb.length d8]).heap.size (wc6.heap.size) (.slice (some ⟨wl9.heap.size, 0, none⟩) 14 14) (.slice a7 ya.length d7) (.slice a8 yb.length d8) zeros ya yb := ⟨wl9.heap.size, wl9.heap.size + 1, w0.drew.heap.size, wc6.heap.size, by omega, by omega, by omega, by omega, by omega, by omega, by omega, ⟨oZ, fun b hb => by simp [Value.ownBlock] at hb; omega⟩, oM⟩
          exact ⟨wc6.heap.size, _, _, _, _, _, _, _, _, rfl, New.one Nm10 hkz (by omega), setMany_other [.int .i64 0, .slice (some ⟨wl9.heap.size, 0, none⟩) 14 14, .slice a7 ya.length d7, .slice a8 yb.length d8] 0 bCm10 (by omega), setMany_other [.int .i64 0, .slice (some ⟨wl9.heap.size, 0, none⟩) 14 14, .slice a7 ya.length d7, .slice a8 yb.length d8] 0 bRm10 (by omega), hR, hH, by omega, by omega, Nat.le_refl _⟩
      · go_simp
        have hnl11 : New w0.drew (w0.alloc (.cells #[.int .i64 0, .slice none 0 0, .slice none 0 0, .slice none 0 0] 38)).drew := (show New w0.drew (w0.drew.alloc (.cells #[.int .i64 0, .slice none 0 0, .slice none 0 0, .slice none 0 0] 38)) from (Kp.refl _ _).alloc _)
        have zl11 : w0.drew.heap.size < (w0.alloc (.cells #[.int .i64 0, .slice none 0 0, .slice none 0 0, .slice none 0 0] 38)).drew.heap.size := (show w0.drew.heap.size < (w0.drew.alloc (.cells #[.int .i64 0, .slice none 0 0, .slice none 0 0, .slice none 0 0] 38)).heap.size from Rec.lt_alloc _ _)
        have Nl11 := N1.trans hnl11
        have bCl11 := heap_new hnl11 bC_1
        have bMl11 := heap_new hnl11 bM_1
        have bRl11 := heap_new hnl11 bR_1
        have bBl11 : (w0.alloc (.cells #[.int .i64 0, .slice none 0 0, .slice none 0 0, .slice none 0 0] 38)).drew.heap[w0.heap.size]? = some (.cells #[.int .i64 0, .slice none 0 0, .slice none 0 0, .slice none 0 0] 38) := (show (w0.drew.alloc (.cells #[.int .i64 0, .slice none 0 0, .slice none 0 0, .slice none 0 0] 38)).heap[w0.drew.heap.size]? = _ from alloc_heap _ _)
        generalize (w0.alloc (.cells #[.int .i64 0, .slice none 0 0, .slice none 0 0, .slice none 0 0] 38)).drew = wl11 at *
        obtain ⟨l11M0, l11M1⟩ := cells2 bMl11
        refine hK.out _ _ ?_ (fun hHeld2 => ?_)
        · exact ⟨l11M0, l11M1⟩
        clear hK K hHeld
        have hHeld := hHeld2
        clear hHeld2
        try simp only [AP]
        refine AnyK.two (i := 0) (j := 2) (by kernel_rfl) rfl rfl (fun K hK => ?_) (fun K hK => ?_)
        · go_simp
          have hnm12 : New wl11 (wl11.alloc (.cells (mkCells (.int .i64 0) 1 14) 3)) := (show New wl11 (wl11.alloc (.cells (mkCells (.int .i64 0) 1 14) 3)) from (Kp.refl _ _).alloc _)
          have zm12 : wl11.heap.size < (wl11.alloc (.cells (mkCells (.int .i64 0) 1 14) 3)).heap.size := (show wl11.heap.size < (wl11.alloc (.cells (mkCells (.int .i64 0) 1 14) 3)).heap.size from Rec.lt_alloc _ _)
          have Nm12 := Nl11.trans hnm12
          have hz0m12 := Lib.hid (show OwnF 1 encI (wl11.alloc (.cells (mkCells (.int .i64 0) 1 14) 3)) wl11.heap.size 3 (.slice (some ⟨wl11.heap.size, 0, none⟩) 14 14) zeros from zeros_own wl11)
          have bCm12 := heap_new hnm12 bCl11
          have bMm12 := heap_new hnm12 bMl11
          have bRm12 := heap_new hnm12 bRl11
          have bBm12 := heap_new hnm12 bBl11
          generalize (wl11.alloc (.cells (mkCells (.int .i64 0) 1 14) 3)) = wm12 at *
          obtain ⟨m12M0, m12M1⟩ := cells2 bMm12
          refine hK.out _ _ ?_ (fun hHeld2 => ?_)
          · exact ⟨m12M0, m12M1⟩
          clear hK K hHeld
          have hHeld := hHeld2
          clear hHeld2
          try simp only [AP]
          refine AnyK.step (i := 2) (by kernel_rfl) rfl (fun K hK => ?_)
          go_simp
          refine (CopyM.l3Copy _ lo' hi' _ _ _ _ (hra.out.new h2 Nm12) (hrb.out.new h2 Nm12) (by have := Nm12.size; omega) m0 m1 m2).mono ?_
          rintro e wc13 ⟨u1, u2, rfl, hnc13, hq⟩
          obtain ⟨⟨a7, d7, e7⟩, a8, d8, e8⟩ := hq.lens
          subst e7; subst e8
          have hqc13 := Lib.hid hq
          clear hq
          have zc13 := hnc13.size
          have Nc13 := Nm12.trans hnc13
          have bCc13 := heap_new hnc13 bCm12
          have bMc13 := heap_new hnc13 bMm12
          have bRc13 := heap_new hnc13 bRm12
          have bBc13 := heap_new hnc13 bBm12
          have hzc13 := Lib.hid (hz0m12.out.new hnc13)
          obtain ⟨c13M0, c13M1⟩ := cells2 bMc13
          refine hK.out _ _ ?_ (fun hHeld2 => ?_)
          · exact ⟨c13M0, c13M1⟩
          clear hK K hHeld
          have hHeld := hHeld2
          clear hHeld2
          try simp only [AP]
          refine AnyK.tw 3 rfl ?_
          try simp only [AP]
          refine AnyK.last (by kernel_rfl) ?_
          simp only [List.drop_succ_cons, List.drop_zero]
          clear hHeld
          obtain ⟨e0, e1, e2, e3⟩ := cells4 bBc13
          have ef := frozen_of_heap bBc13
          have bl := heap_lt bBc13
          have zw : w0.drew.heap.size = w0.heap.size := rfl
          have zt := (hzc13.out.lt wl11.heap.size (by simp [Value.ownBlock])).2
          go_wp2
          go_meet
          have hkz := setMany_kp (w0.heap.size) [.int .i64 0, .slice (some ⟨wl11.heap.size, 0, none⟩) 14 14, .slice a7 ya.length d7, .slice a8 yb.length d8] wc13 0
          have zs := setMany_size (w0.heap.size) [.int .i64 0, .slice (some ⟨wl11.heap.size, 0, none⟩) 14 14, .slice a7 ya.length d7, .slice a8 yb.length d8] wc13 0
          have hR := setMany_row [.int .i64 0, .slice (some ⟨wl11.heap.size, 0, none⟩) 14 14, .slice a7 ya.length d7, .slice a8 yb.length d8] bBc13 rfl
          have oM := hqc13.out.kp hkz (fun b e => by omega)
          have oZ := hzc13.out.kp hkz (fun b hb e => by simp [Value.ownBlock] at hb; omega)
          have hqs : w.heap.size + 1 + 1 < w0.heap.size := by omega
          have hH : MachH (setMany wc13 (w0.heap.size) 0 [.int .i64 0, .slice (some ⟨wl11.heap.size, 0, none⟩) 14 14, .slice a7 ya.length d7, .slice a8 yb.length d8]) (w.heap.size + 1 + 1 + 1) (setMany wc13 (w0.heap.size) 0 [.int .i64 0, .slice (some ⟨wl11.heap.size, 0, none⟩) 14 14, .slice a7 ya.length d7, .slice a8 yb.length d8]).heap.size (w0.heap.size) (.slice (some ⟨wl11.heap.size, 0, none⟩) 14 14) (.slice a7 ya.length d7) (.slice a8 yb.length d8) zeros ya yb := ⟨wl11.heap.size, wl11.heap.size + 1, wm12.heap.size, wc13.heap.size, by omega, by omega, by omega, by omega, by omega, by omega, by omega, ⟨oZ, fun b hb => by simp [Value.ownBlock] at hb; omega⟩, oM⟩
          exact ⟨w0.heap.size, _, _, _, _, _, _, _, _, rfl, New.one Nc13 hkz (by omega), setMany_other [.int .i64 0, .slice (some ⟨wl11.heap.size, 0, none⟩) 14 14, .slice a7 ya.length d7, .slice a8 yb.length d8] 0 bCc13 (by omega), setMany_other [.int .i64 0, .slice (some ⟨wl11.heap.size, 0, none⟩) 14 14, .slice a7 ya.length d7, .slice a8 yb.length d8] 0 bRc13 (by omega), hR, hH, by omega, by omega, Nat.le_refl _⟩
        · go_simp
          refine (CopyM.l3Copy _ lo' hi' _ _ _ _ (hra.out.new h2 Nl11) (hrb.out.new h2 Nl11) (by have := Nl11.size; omega) m0 m1 m2).mono ?_
          rintro e wc14 ⟨u1, u2, rfl, hnc14, hq⟩
          obtain ⟨⟨a7, d7, e7⟩, a8, d8, e8⟩ := hq.lens
          subst e7; subst e8
          have hqc14 := Lib.hid hq
          clear hq
          have zc14 := hnc14.size
          have Nc14 := Nl11.trans hnc14
          have bCc14 := heap_new hnc14 bCl11
          have bMc14 := heap_new hnc14 bMl11
          have bRc14 := heap_new hnc14 bRl11
          have bBc14 := heap_new hnc14 bBl11
          obtain ⟨c14M0, c14M1⟩ := cells2 bMc14
          refine hK.out _ _ ?_ (fun hHeld2 => ?_)
          · exact ⟨c14M0, c14M1⟩
          clear hK K hHeld
          have hHeld := hHeld2
          clear hHeld2
          try simp only [AP]
          refine AnyK.step (i := 0) (by kernel_rfl) rfl (fun K hK => ?_)
          go_simp
          have hnm15 : New wc14 (wc14.alloc (.cells (mkCells (.int .i64 0) 1 14) 3)) := (show New wc14 (wc14.alloc (.cells (mkCells (.int .i64 0) 1 14) 3)) from (Kp.refl _ _).alloc _)
          have zm15 : wc14.heap.size < (wc14.alloc (.cells (mkCells (.int .i64 0) 1 14) 3)).heap.size := (show wc14.heap.size < (wc14.alloc (.cells (mkCells (.int .i64 0) 1 14) 3)).heap.size from Rec.lt_alloc _ _)
          have Nm15 := Nc14.trans hnm15
          have hz0m15 := Lib.hid (show OwnF 1 encI (wc14.alloc (.cells (mkCells (.int .i64 0) 1 14) 3)) wc14.heap.size 3 (.slice (some ⟨wc14.heap.size, 0, none⟩) 14 14) zeros from zeros_own wc14)
          have bCm15 := heap_new hnm15 bCc14
          have bMm15 := heap_new hnm15 bMc14
          have bRm15 := heap_new hnm15 bRc14
          have bBm15 := heap_new hnm15 bBc14
          have hym15 := Lib.hid (hqc14.out.new (by omega) hnm15)
          generalize (wc14.alloc (.cells (mkCells (.int .i64 0) 1 14) 3)) = wm15 at *
          obtain ⟨m15M0, m15M1⟩ := cells2 bMm15
          refine hK.out _ _ ?_ (fun hHeld2 => ?_)
          · exact ⟨m15M0, m15M1⟩
          clear hK K hHeld
          have hHeld := hHeld2
          clear hHeld2
          try simp only [AP]
          refine AnyK.tw 3 rfl ?_
          try simp only [AP]
          refine AnyK.last (by kernel_rfl) ?_
          simp only [List.drop_succ_cons, List.drop_zero]
          clear hHeld
          obtain ⟨e0, e1, e2, e3⟩ := cells4 bBm15
          have ef := frozen_of_heap bBm15
          have bl := heap_lt bBm15
          have zw : w0.drew.heap.size = w0.heap.size := rfl
          have zt := (hz0m15.out.lt wc14.heap.size (by simp [Value.ownBlock])).2
          go_wp2
          go_meet
          have hkz := setMany_kp (w0.heap.size) [.int .i64 0, .slice (some ⟨wc14.heap.size, 0, none⟩) 14 14, .slice a7 ya.length d7, .slice a8 yb.length d8] wm15 0
          have zs := setMany_size (w0.heap.size) [.int .i64 0, .slice (some ⟨wc14.heap.size, 0, none⟩) 14 14, .slice a7 ya.length d7, .slice a8 yb.length d8] wm15 0
          have hR := setMany_row [.int .i64 0, .slice (some ⟨wc14.heap.size, 0, none⟩) 14 14, .slice a7 ya.length d7, .slice a8 yb.length d8] bBm15 rfl
          have oM := hym15.out.kp hkz (fun b e => by omega)
          have oZ := hz0m15.out.kp hkz (fun b hb e => by simp [Value.ownBlock] at hb; omega)
          have hqs : w.heap.size + 1 + 1 < w0.heap.size := by omega
          have hH : MachH (setMany wm15 (w0.heap.size) 0 [.int .i64 0, .slice (some ⟨wc14.heap.size, 0, none⟩) 14 14, .slice a7 ya.length d7, .slice a8 yb.length d8]) (w.heap.size + 1 + 1 + 1) (setMany wm15 (w0.heap.size) 0 [.int .i64 0, .slice (some ⟨wc14.heap.size, 0, none⟩) 14 14, .slice a7 ya.length d7, .slice a8 yb.length d8]).heap.size (w0.heap.size) (.slice (some ⟨wc14.heap.size, 0, none⟩) 14 14) (.slice a7 ya.length d7) (.slice a8 yb.length d8) zeros ya yb := ⟨wc14.heap.size, wc14.heap.size + 1, wl11.heap.size, wc14.heap.size, by omega, by omega, by omega, by omega, by omega, by omega, by omega, ⟨oZ, fun b hb => by simp [Value.ownBlock] at hb; omega⟩, oM⟩
          exact ⟨w0.heap.size, _, _, _, _, _, _, _, _, rfl, New.one Nm15 hkz (by omega), setMany_other [.int .i64 0, .slice (some ⟨wc14.heap.size, 0, none⟩) 14 14, .slice a7 ya.length d7, .slice a8 yb.length d8] 0 bCm15 (by omega), setMany_other [.int .i64 0, .slice (some ⟨wc14.heap.size, 0, none⟩) 14 14, .slice a7 ya.length d7, .slice a8 yb.length d8] 0 bRm15 (by omega), hR, hH, by omega, by omega, Nat.le_refl _⟩
  case rest =>
  obtain ⟨bs, l4, h4, a6, a7, a8, d6, d7, d8, rfl, NB, bCB, bRB, bSB, hHB, g1, g2, g3⟩ := hcut
  obtain ⟨wb, hwb⟩ : ∃ x, x = wc := ⟨_, rfl⟩
  subst hwb
  clear bC_1 bM_1 bR_1 bM_1_c0 bM_1_c1 N1 z1 hmk
  have hE := OwnF.empty (α := Ev) (n := 2) (enc := encE) wb 68 (base := wb.heap.size) (Nat.le_refl _)
  have ka : New wb (wb.alloc (.cells #[] 68)) := (Kp.refl _ _).alloc _
  have hG : Going w bs l4 h4 wb.heap.size ya.length yb.length (.slice a6 zeros.length d6) (.slice a7 ya.length d7) (.slice a8 yb.length d8) #[.slice a1 xa.length d1, .slice a2 xb.length d2, .slice (some ⟨bc, oc, none⟩) x.length d3] x 0 20000 (run x 20000 ⟨((0 : Nat) : Int), zeros, ya, yb⟩ []) (.slice (some ⟨wb.heap.size, 0, none⟩) 0 0) (wb.alloc (.cells #[] 68)) := ⟨0, zeros, ya, yb, [], hp0, hkh.out, rfl, Nat.le_refl _, NB.trans ka, by simp, heap_new ka bCB, heap_new ka bRB, heap_new ka bSB, hHB.new g3 ka, hE⟩
  have hGh := Lib.hid hG
  have zB := heap_lt bSB
  have zN := NB.size
  generalize hr0 : run x 20000 ⟨((0 : Nat) : Int), zeros, ya, yb⟩ [] = r0 at *
  clear hG hE ka NB bCB bRB bSB hHB hr0 hkh
  go_wp2_with fail
  generalize wb.alloc (.cells #[] 68) = w1 at *
  generalize hB : wb.heap.size = B at *
  clear hB
  go_loopw [10, 11] (fun v i wr => ∃ k : Nat, k ≤ 20000 ∧ i = .int .i64 k ∧ Going w bs l4 h4 B ya.length yb.length (.slice a6 zeros.length d6) (.slice a7 ya.length d7) (.slice a8 yb.length d8) #[.slice a1 xa.length d1, .slice a2 xb.length d2, .slice (some ⟨bc, oc, none⟩) x.length d3] x k (20000 - k) r0 v wr) (fun _ i _ => 20000 - (intOf i).toNat)
  case atStart => exact ⟨0, Nat.zero_le _, rfl, hGh.out⟩
  case round =>
    obtain ⟨k, hk2, rfl, p, yr, ya1, yb1, t, hp, hk, hrun, htl, K, hBw, bC, bR, bS, hM, hT⟩ := hrel
    clear hGh
    have hMh := Lib.hid hM
    have hTh := Lib.hid hT
    have hkh := Lib.hid hk
    have hrh := Lib.hid hrun
    have hTl := hT.lt
    have ea := hk.vl
    have eb := hk.al
    dsimp only at ea eb
    have hKh := Lib.hid K
    have zr := K.size
    obtain ⟨av, dv, ev, _⟩ := hT.reads.len
    by_cases hlt : k < 20000
    · obtain ⟨n, hn⟩ : ∃ n, 20000 - k = n + 1 := ⟨20000 - k - 1, by omega⟩
      have hn2 : 20000 - (k + 1) = n := by omega
      have hrn := hrh.out
      rw [hn] at hrn
      have hrnh := Lib.hid hrn
      have hn2h := Lib.hid hn2
      obtain ⟨cC0, cC1, cC2⟩ := cells3 bC
      obtain ⟨cS0, cS1, cS2, cS3⟩ := cells4 bS
      have cl := heap_lt bC
      have sl := heap_lt bS
      obtain ⟨bc', oc', e', _, _, c0, _⟩ := InssR.at (hs.out.new h1 K) p hp
      cases e'
      have c0l := cell_lt c0
      have hex := StepX.exec wr l4 h4 bs lo hi p B (.slice a1 xa.length d1) (.slice a2 xb.length d2) (.slice (some ⟨bc, oc, none⟩) x.length d3) (.slice a6 zeros.length d6) (.slice a7 ya.length d7) (.slice a8 yb.length d8) _ xa xb yr ya1 x yb1 t (hsa.out.new h1 K) (hsb.out.new h1 K) (hs.out.new h1 K) (by omega) hMh.out (by omega) hTh.out (fun b hb => .inr (.inl (by have := hTl b hb; omega))) hBw (by omega) hp hxl (by rw [ea, eb]; exact hch.out.view p hp) (by rw [ea, eb]; exact hkh.out) (by omega)
      have hexh := Lib.hid hex
      have hok := eff_okm (hch.out.view p hp) hkh.out
      have hokh := Lib.hid hok
      obtain ⟨q, hq, hql⟩ := eff_pc hch.out (s := ⟨p, yr, ya1, yb1⟩) hp rfl
      have hqh := Lib.hid hq
      have hle := (eff_len (hch.out.view p hp) ⟨p, yr, ya1, yb1⟩).2
      have hleh := Lib.hid hle
      have eah := Lib.hid ea
      have ebh := Lib.hid eb
      subst ev
      clear hM hT hk hrun K hex hok hq hle ea eb hn hn2 hrn hrh
      by_cases hop : x[p].op = 13
      · go_wp2_with (go_at_call 55; refine hexh.out.mono ?_; rintro e w2 ⟨v1, rfl, k1, hM1, hT1, hA1⟩; rw [hqh.out]; have z1 := k1.size; have bC1 := (k1.block _ cl (fun e => e.elim (fun e => by omega) (fun e => by have := hTl _ e; omega))).trans bC; have bR1 := (k1.block _ (heap_lt bR) (fun e => e.elim (fun e => by omega) (fun e => by have := hTl _ e; omega))).trans bR; have bS1 := (k1.block _ sl (fun e => e.elim (fun e => by omega) (fun e => by have := hTl _ e; omega))).trans bS; have hN1 := Lib.hid (New.on hKh.out k1 (fun i e => e.elim (fun e => by omega) (fun e => by have := hTl _ e; omega))); have hM1h := Lib.hid hM1; have hT1h := Lib.hid hT1; obtain ⟨a9, n9, d9, e9⟩ : ∃ a n d, v1 = .slice a n d := slice_form hT1.reads; subst e9; have hA1h := Lib.hid hA1; clear cC0 cC1 cC2 cS0 cS1 cS2 cS3 c0 hM1 hT1 hA1 k1 hexh; have cS0 := cell_of_heap bS1 0; have cS1 := cell_of_heap bS1 1; have cS2 := cell_of_heap bS1 2; have cS3 := cell_of_heap bS1 3; have cSf := frozen_of_heap bS1; have sl1 := heap_lt bS1; have cR0 := cell_of_heap bR1 0; have cR1 := cell_of_heap bR1 1; have cRf := frozen_of_heap bR1; have rl1 := heap_lt bR1)
        have k1 := setMany_kp bs [.int .i64 (q : Int), .slice a6 zeros.length d6, .slice a7 ya.length d7, .slice a8 yb.length d8] w2 0
        have y1 := setMany_size bs [.int .i64 (q : Int), .slice a6 zeros.length d6, .slice a7 ya.length d7, .slice a8 yb.length d8] w2 0
        have bS2 := setMany_row [.int .i64 (q : Int), .slice a6 zeros.length d6, .slice a7 ya.length d7, .slice a8 yb.length d8] bS1 rfl
        have bR2 := setMany_other [.int .i64 (q : Int), .slice a6 zeros.length d6, .slice a7 ya.length d7, .slice a8 yb.length d8] 0 bR1 (show w.heap.size + 1 + 1 ≠ bs by omega)
        have bC2 := setMany_other [.int .i64 (q : Int), .slice a6 zeros.length d6, .slice a7 ya.length d7, .slice a8 yb.length d8] 0 bC1 (show w.heap.size ≠ bs by omega)
        have hA := hA1h.out
        have hM2 := hM1h.out.kp k1 (fun b e => .inr (.inr e))
        have hT2 := hT1h.out.kp k1 (fun b hb e => by
            rcases hA b hb with h | h
            · have := hTl b h; omega
            · omega)
        have N2 := New.one hN1.out k1 (by omega)
        obtain ⟨p2, q2, j1, j2, hMO⟩ := mem_of hM2.toO
        have hkz := setMany_kp (w.heap.size + 1 + 1) [.slice a7 ya.length d7, .slice a8 yb.length d8] (setMany w2 bs 0 [.int .i64 (q : Int), .slice a6 zeros.length d6, .slice a7 ya.length d7, .slice a8 yb.length d8]) 0
        have zs := setMany_size (w.heap.size + 1 + 1) [.slice a7 ya.length d7, .slice a8 yb.length d8] (setMany w2 bs 0 [.int .i64 (q : Int), .slice a6 zeros.length d6, .slice a7 ya.length d7, .slice a8 yb.length d8]) 0
        have hR := setMany_row [.slice a7 ya.length d7, .slice a8 yb.length d8] bR2 rfl
        have hqs : q2 ≤ (setMany (setMany w2 bs 0 [.int .i64 (q : Int), .slice a6 zeros.length d6, .slice a7 ya.length d7, .slice a8 yb.length d8]) (w.heap.size + 1 + 1) 0 [.slice a7 ya.length d7, .slice a8 yb.length d8]).heap.size := by omega
        have hst : r0 = some ((eff x[p] ⟨p, yr, ya1, yb1⟩).1, t ++ (5, (p : Int)) :: (eff x[p] ⟨p, yr, ya1, yb1⟩).2) := hrnh.out.symm.trans (run_stop hp rfl hop)
        refine bodyPost_ret (v := .tuple #[.agg #[.slice a7 ya.length d7, .slice a8 yb.length d8], _, .bool true]) (results_cell_tmp2 rfl _ _ _ _ _ _ _ _ _ rfl rfl rfl hR Try.underlying29 rfl (by kernel_rfl)) rfl ?_
        exact Ret.full hst rfl (New.one N2 hkz (by omega)) (hMO.kp hkz (fun b e => .inl (by omega))) (by omega) hqs ((hT2.kp hkz (fun b hb e => by
            rcases hA b hb with h | h
            · have := hTl b h; omega
            · omega)).mono (by omega)) (fun b hb => .inr (by
            rcases hA b hb with h | h
            · have := hTl b h; omega
            · omega))
      · go_wp2_with (go_at_call 55; refine hexh.out.mono ?_; rintro e w2 ⟨v1, rfl, k1, hM1, hT1, hA1⟩; rw [hqh.out]; have z1 := k1.size; have bC1 := (k1.block _ cl (fun e => e.elim (fun e => by omega) (fun e => by have := hTl _ e; omega))).trans bC; have bR1 := (k1.block _ (heap_lt bR) (fun e => e.elim (fun e => by omega) (fun e => by have := hTl _ e; omega))).trans bR; have bS1 := (k1.block _ sl (fun e => e.elim (fun e => by omega) (fun e => by have := hTl _ e; omega))).trans bS; have hN1 := Lib.hid (New.on hKh.out k1 (fun i e => e.elim (fun e => by omega) (fun e => by have := hTl _ e; omega))); have hM1h := Lib.hid hM1; have hT1h := Lib.hid hT1; obtain ⟨a9, n9, d9, e9⟩ : ∃ a n d, v1 = .slice a n d := slice_form hT1.reads; subst e9; have hA1h := Lib.hid hA1; clear cC0 cC1 cC2 cS0 cS1 cS2 cS3 c0 hM1 hT1 hA1 k1 hexh; have cS0 := cell_of_heap bS1 0; have cS1 := cell_of_heap bS1 1; have cS2 := cell_of_heap bS1 2; have cS3 := cell_of_heap bS1 3; have cSf := frozen_of_heap bS1; have sl1 := heap_lt bS1; have cR0 := cell_of_heap bR1 0; have cR1 := cell_of_heap bR1 1; have cRf := frozen_of_heap bR1; have rl1 := heap_lt bR1)
        go_roundw
        case rel =>
          have k1 := setMany_kp bs [.int .i64 (q : Int), .slice a6 zeros.length d6, .slice a7 ya.length d7, .slice a8 yb.length d8] w2 0
          have y1 := setMany_size bs [.int .i64 (q : Int), .slice a6 zeros.length d6, .slice a7 ya.length d7, .slice a8 yb.length d8] w2 0
          have bS2 := setMany_row [.int .i64 (q : Int), .slice a6 zeros.length d6, .slice a7 ya.length d7, .slice a8 yb.length d8] bS1 rfl
          have bR2 := setMany_other [.int .i64 (q : Int), .slice a6 zeros.length d6, .slice a7 ya.length d7, .slice a8 yb.length d8] 0 bR1 (show w.heap.size + 1 + 1 ≠ bs by omega)
          have bC2 := setMany_other [.int .i64 (q : Int), .slice a6 zeros.length d6, .slice a7 ya.length d7, .slice a8 yb.length d8] 0 bC1 (show w.heap.size ≠ bs by omega)
          have hA := hA1h.out
          have hM2 := hM1h.out.kp k1 (fun b e => .inr (.inr e))
          have hT2 := hT1h.out.kp k1 (fun b hb e => by
              rcases hA b hb with h | h
              · have := hTl b h; omega
              · omega)
          have N2 := New.one hN1.out k1 (by omega)
          refine ⟨k + 1, by omega, by go_num, q, (eff x[p] ⟨p, yr, ya1, yb1⟩).1.r, (eff x[p] ⟨p, yr, ya1, yb1⟩).1.v, (eff x[p] ⟨p, yr, ya1, yb1⟩).1.a, _, hql, ?_, ?_, ?_, N2, ?_, bC2, bR2, bS2, hM2, hT2⟩
          · rw [← hqh.out]; exact hokh.out
          · rw [hn2h.out, ← hqh.out]; exact ((hrnh.out.symm.trans (run_on hp rfl hop))).symm
          · have := hleh.out
            simp only [List.length_append, List.length_cons]
            omega
          · show B ≤ (setMany w2 bs 0 [.int .i64 (q : Int), .slice a6 zeros.length d6, .slice a7 ya.length d7, .slice a8 yb.length d8]).heap.size
            omega
        case measure => simp [intOf]; omega
    · have hk3 : k = 20000 := by omega
      subst hk3
      have hnone : r0 = none := by rw [← hrun]; rfl
      have hnh := Lib.hid hnone
      clear hM hT hk hrun hnone
      obtain ⟨e0_, e1_⟩ := cells2 bR
      have ef_ := frozen_of_heap bR
      have rl_ := heap_lt bR
      go_wp2
      have hkz := setMany_kp (w.heap.size + 1 + 1) [.slice none 0 0, .slice none 0 0] wr 0
      have zs := setMany_size (w.heap.size + 1 + 1) [.slice none 0 0, .slice none 0 0] wr 0
      have hR := heap_old (x := .cells #[] 68) (setMany_row [.slice none 0 0, .slice none 0 0] bR rfl)
      have hE := OwnF.empty (α := Ev) (n := 2) (enc := encE) (setMany wr (w.heap.size + 1 + 1) 0 [.slice none 0 0, .slice none 0 0]) 68 (base := w.heap.size) (by omega)
      rw [zs] at hE
      exact bodyPost_ret (results_cell_tmp2 rfl _ _ _ _ _ _ _ _ _ rfl rfl rfl hR Try.underlying29 rfl (by kernel_rfl)) rfl (Ret.zero hnh.out rfl ((New.one K hkz (by omega)).trans ((Kp.refl _ _).alloc _)) hE)
set_option maxHeartbeats 4000000 in
set_option maxRecDepth 100000 in
theorem specR (w : World) (lo hi lo' hi' : Nat) (ta tb tc ma mb : Value) (xa xb ya : List Int) (x : List Ins) (yb : List (List Int)) (sa : IntsR w lo hi ta xa) (sb : IntsR w lo hi tb xb) (s : InssR w lo hi tc x) (h1 : hi ≤ w.heap.size) (ra : IntsR w lo' hi' ma ya) (rb : MatR w lo' hi' mb yb) (h2 : hi' ≤ w.heap.size)
    (m0 : ya.length ≤ 1099511627776) (m1 : yb.length ≤ 1073741824) (m2 : ∀ x ∈ yb, x.length ≤ 1099511627776) :
    Calls Try.prog 8 #[.agg #[ta, tb, tc], .agg #[ma, mb]] w (Ret w (runR xa xb x ya yb)) := by
  obtain ⟨a1, d1, rfl, l1⟩ := sa.len
  obtain ⟨a2, d2, rfl, l2⟩ := sb.len
  obtain ⟨a3, d3, rfl, l3⟩ := s.len
  obtain ⟨a4, d4, rfl, l4⟩ := ra.len
  obtain ⟨a5, d5, rfl, l5⟩ := rb.len
  have hsa := Lib.hid sa
  have hsb := Lib.hid sb
  have hs := Lib.hid s
  have hra := Lib.hid ra
  have hrb := Lib.hid rb
  clear sa sb s ra rb
  go_enter Try.func8, Try.ntmps8
  go_wp2_with fail
  have N0 : New w (((w.alloc (.cells #[.slice a1 xa.length d1, .slice a2 xb.length d2, .slice a3 x.length d3] 26)).alloc (.cells #[.slice a4 ya.length d4, .slice a5 yb.length d5] 29)).alloc (.cells #[.slice none 0 0, .slice none 0 0] 29)) := ((((Kp.refl _ _).alloc _).alloc _).alloc _)
  have bC_0 : (((w.alloc (.cells #[.slice a1 xa.length d1, .slice a2 xb.length d2, .slice a3 x.length d3] 26)).alloc (.cells #[.slice a4 ya.length d4, .slice a5 yb.length d5] 29)).alloc (.cells #[.slice none 0 0, .slice none 0 0] 29)).heap[w.heap.size]? = some (.cells #[.slice a1 xa.length d1, .slice a2 xb.length d2, .slice a3 x.length d3] 26) := heap_old (heap_old (alloc_heap _ _))
  have bM_0 : (((w.alloc (.cells #[.slice a1 xa.length d1, .slice a2 xb.length d2, .slice a3 x.length d3] 26)).alloc (.cells #[.slice a4 ya.length d4, .slice a5 yb.length d5] 29)).alloc (.cells #[.slice none 0 0, .slice none 0 0] 29)).heap[w.heap.size + 1]? = some (.cells #[.slice a4 ya.length d4, .slice a5 yb.length d5] 29) := heap_old (heap_at (by simp))
  have bR_0 : (((w.alloc (.cells #[.slice a1 xa.length d1, .slice a2 xb.length d2, .slice a3 x.length d3] 26)).alloc (.cells #[.slice a4 ya.length d4, .slice a5 yb.length d5] 29)).alloc (.cells #[.slice none 0 0, .slice none 0 0] 29)).heap[w.heap.size + 1 + 1]? = some (.cells #[.slice none 0 0, .slice none 0 0] 29) := heap_at (by simp)
  have z0 : w.heap.size + 1 + 1 < (((w.alloc (.cells #[.slice a1 xa.length d1, .slice a2 xb.length d2, .slice a3 x.length d3] 26)).alloc (.cells #[.slice a4 ya.length d4, .slice a5 yb.length d5] 29)).alloc (.cells #[.slice none 0 0, .slice none 0 0] 29)).heap.size := by simp
  generalize (((w.alloc (.cells #[.slice a1 xa.length d1, .slice a2 xb.length d2, .slice a3 x.length d3] 26)).alloc (.cells #[.slice a4 ya.length d4, .slice a5 yb.length d5] 29)).alloc (.cells #[.slice none 0 0, .slice none 0 0] 29)) = w0 at *
  obtain ⟨bC_0_c0, bC_0_c1, bC_0_c2⟩ := cells3 bC_0
  obtain ⟨bM_0_c0, bM_0_c1⟩ := cells2 bM_0
  have N0d : New w w0.drew := N0.drew
  have z0d : w.heap.size + 1 + 1 < w0.drew.heap.size := by simpa using z0
  have bC_0d : w0.drew.heap[w.heap.size]? = some (.cells #[.slice a1 xa.length d1, .slice a2 xb.length d2, .slice a3 x.length d3] 26) := bC_0
  have bM_0d : w0.drew.heap[w.heap.size + 1]? = some (.cells #[.slice a4 ya.length d4, .slice a5 yb.length d5] 29) := bM_0
  have bR_0d : w0.drew.heap[w.heap.size + 1 + 1]? = some (.cells #[.slice none 0 0, .slice none 0 0] 29) := bR_0
  cases q1 : codeB xa xb x
  · have D := Lib.hid (show (codeB xa xb x && fitB xa.length xb.length ya yb) = false by rw [q1]; rfl)
    have E := Lib.hid q1
    clear q1
    go_wp2_with fail
    refine wp_region_held_drew (S := fun w' => w'.cell? ⟨w.heap.size, 0, none⟩ = some (.slice a1 xa.length d1) ∧ w'.cell? ⟨w.heap.size, 1, none⟩ = some (.slice a2 xb.length d2) ∧ w'.cell? ⟨w.heap.size, 2, none⟩ = some (.slice a3 x.length d3) ∧ w'.cell? ⟨w.heap.size + 1, 0, none⟩ = some (.slice a4 ya.length d4) ∧ w'.cell? ⟨w.heap.size + 1, 1, none⟩ = some (.slice a5 yb.length d5)) (by kernel_rfl) ?_ (fun hHeld => ?_)
    · exact ⟨bC_0_c0, bC_0_c1, bC_0_c2, bM_0_c0, bM_0_c1⟩
    refine HT 0 rfl ?_
    try simp only [AP]
    refine HR 1 rfl fun K hK => ?_
    go_simp
    refine (CodeW.specV (hsa.out.new h1 N0d) (hsb.out.new h1 N0d) (hs.out.new h1 N0d) (by omega)).mono ?_
    rintro e w1 ⟨rfl, hn1⟩
    have N1 := N0d.trans hn1
    have z1 := hn1.size
    have bC_1 := heap_new hn1 bC_0d
    have bM_1 := heap_new hn1 bM_0d
    have bR_1 := heap_new hn1 bR_0d
    obtain ⟨bC_1_c0, bC_1_c1, bC_1_c2⟩ := cells3 bC_1
    obtain ⟨bM_1_c0, bM_1_c1⟩ := cells2 bM_1
    rw [E.out]
    go_simp
    refine hK.out _ _ ?_ (fun hHeld2 => ?_)
    · exact ⟨bC_1_c0, bC_1_c1, bC_1_c2, bM_1_c0, bM_1_c1⟩
    clear hK K hHeld
    have hHeld := hHeld2
    clear hHeld2
    try simp only [AP]
    refine HT 2 rfl ?_
    try simp only [AP]
    refine HT 3 rfl ?_
    try simp only [AP]
    refine HS 4 rfl ?_
    try simp only [AP]
    refine HS 5 rfl ?_
    try simp only [AP]
    refine HS 6 rfl ?_
    try simp only [AP]
    refine HS 7 rfl ?_
    try simp only [AP]
    refine HS 8 rfl ?_
    try simp only [AP]
    refine HT 9 rfl ?_
    try simp only [AP]
    refine wpAnyH_done (by kernel_rfl) ?_ _
    obtain ⟨e0_, e1_⟩ := cells2 bR_1
    have ef_ := frozen_of_heap bR_1
    have rl_ := heap_lt bR_1
    go_wp2
    have hkz := setMany_kp (w.heap.size + 1 + 1) [.slice none 0 0, .slice none 0 0] w1 0
    have zs := setMany_size (w.heap.size + 1 + 1) [.slice none 0 0, .slice none 0 0] w1 0
    have hR := heap_old (x := .cells #[] 68) (setMany_row [.slice none 0 0, .slice none 0 0] bR_1 rfl)
    have hE := OwnF.empty (α := Ev) (n := 2) (enc := encE) (setMany w1 (w.heap.size + 1 + 1) 0 [.slice none 0 0, .slice none 0 0]) 68 (base := w.heap.size) (by omega)
    rw [zs] at hE
    exact bodyPost_ret (results_cell_tmp2 rfl _ _ _ _ _ _ _ _ _ rfl rfl rfl hR Try.underlying29 rfl (by kernel_rfl)) rfl (Ret.zero (runR_no D.out) rfl ((New.one N1 hkz (by omega)).trans ((Kp.refl _ _).alloc _)) hE)
  have E := Lib.hid q1
  clear q1
  cases q2 : fitB xa.length xb.length ya yb
  · have D := Lib.hid (show (codeB xa xb x && fitB xa.length xb.length ya yb) = false by rw [q2, Bool.and_false])
    have F := Lib.hid q2
    clear q2
    go_wp2_with fail
    refine wp_region_held_drew (S := fun w' => w'.cell? ⟨w.heap.size, 0, none⟩ = some (.slice a1 xa.length d1) ∧ w'.cell? ⟨w.heap.size, 1, none⟩ = some (.slice a2 xb.length d2) ∧ w'.cell? ⟨w.heap.size, 2, none⟩ = some (.slice a3 x.length d3) ∧ w'.cell? ⟨w.heap.size + 1, 0, none⟩ = some (.slice a4 ya.length d4) ∧ w'.cell? ⟨w.heap.size + 1, 1, none⟩ = some (.slice a5 yb.length d5)) (by kernel_rfl) ?_ (fun hHeld => ?_)
    · exact ⟨bC_0_c0, bC_0_c1, bC_0_c2, bM_0_c0, bM_0_c1⟩
    refine HT 0 rfl ?_
    try simp only [AP]
    refine HR 1 rfl fun K hK => ?_
    go_simp
    refine (CodeW.specV (hsa.out.new h1 N0d) (hsb.out.new h1 N0d) (hs.out.new h1 N0d) (by omega)).mono ?_
    rintro e w1 ⟨rfl, hn1⟩
    have N1 := N0d.trans hn1
    have z1 := hn1.size
    have bC_1 := heap_new hn1 bC_0d
    have bM_1 := heap_new hn1 bM_0d
    have bR_1 := heap_new hn1 bR_0d
    obtain ⟨bC_1_c0, bC_1_c1, bC_1_c2⟩ := cells3 bC_1
    obtain ⟨bM_1_c0, bM_1_c1⟩ := cells2 bM_1
    rw [E.out]
    go_simp
    refine hK.out _ _ ?_ (fun hHeld2 => ?_)
    · exact ⟨bC_1_c0, bC_1_c1, bC_1_c2, bM_1_c0, bM_1_c1⟩
    clear hK K hHeld
    have hHeld := hHeld2
    clear hHeld2
    try simp only [AP]
    refine HT 2 rfl ?_
    try simp only [AP]
    refine HT 3 rfl ?_
    try simp only [AP]
    refine HT 4 rfl ?_
    try simp only [AP]
    refine HT 6 rfl ?_
    try simp only [AP]
    refine HR 5 rfl fun K hK => ?_
    go_simp
    refine (Decl.l6Heads _ _ _ _ _ _ _).mono ?_
    rintro e w2 ⟨rfl, hn2⟩
    have N2 := N1.trans hn2
    have z2 := hn2.size
    have bC_2 := heap_new hn2 bC_1
    have bM_2 := heap_new hn2 bM_1
    have bR_2 := heap_new hn2 bR_1
    obtain ⟨bC_2_c0, bC_2_c1, bC_2_c2⟩ := cells3 bC_2
    obtain ⟨bM_2_c0, bM_2_c1⟩ := cells2 bM_2
    go_simp
    refine hK.out _ _ ?_ (fun hHeld2 => ?_)
    · exact ⟨bC_2_c0, bC_2_c1, bC_2_c2, bM_2_c0, bM_2_c1⟩
    clear hK K hHeld
    have hHeld := hHeld2
    clear hHeld2
    try simp only [AP]
    refine HR 7 rfl fun K hK => ?_
    go_simp
    refine (Decl.fits (hra.out.new h2 N2) (hrb.out.new h2 N2) (by omega)).mono ?_
    rintro e w3 ⟨rfl, hn3⟩
    have N3 := N2.trans hn3
    have z3 := hn3.size
    have bC_3 := heap_new hn3 bC_2
    have bM_3 := heap_new hn3 bM_2
    have bR_3 := heap_new hn3 bR_2
    obtain ⟨bC_3_c0, bC_3_c1, bC_3_c2⟩ := cells3 bC_3
    obtain ⟨bM_3_c0, bM_3_c1⟩ := cells2 bM_3
    rw [F.out]
    go_simp
    refine hK.out _ _ ?_ (fun hHeld2 => ?_)
    · exact ⟨bC_3_c0, bC_3_c1, bC_3_c2, bM_3_c0, bM_3_c1⟩
    clear hK K hHeld
    have hHeld := hHeld2
    clear hHeld2
    try simp only [AP]
    refine HT 8 rfl ?_
    try simp only [AP]
    refine HT 9 rfl ?_
    try simp only [AP]
    refine wpAnyH_done (by kernel_rfl) ?_ _
    obtain ⟨e0_, e1_⟩ := cells2 bR_3
    have ef_ := frozen_of_heap bR_3
    have rl_ := heap_lt bR_3
    go_wp2
    have hkz := setMany_kp (w.heap.size + 1 + 1) [.slice none 0 0, .slice none 0 0] w3 0
    have zs := setMany_size (w.heap.size + 1 + 1) [.slice none 0 0, .slice none 0 0] w3 0
    have hR := heap_old (x := .cells #[] 68) (setMany_row [.slice none 0 0, .slice none 0 0] bR_3 rfl)
    have hE := OwnF.empty (α := Ev) (n := 2) (enc := encE) (setMany w3 (w.heap.size + 1 + 1) 0 [.slice none 0 0, .slice none 0 0]) 68 (base := w.heap.size) (by omega)
    rw [zs] at hE
    exact bodyPost_ret (results_cell_tmp2 rfl _ _ _ _ _ _ _ _ _ rfl rfl rfl hR Try.underlying29 rfl (by kernel_rfl)) rfl (Ret.zero (runR_no D.out) rfl ((New.one N3 hkz (by omega)).trans ((Kp.refl _ _).alloc _)) hE)
  have F := Lib.hid q2
  have D := Lib.hid (show (codeB xa xb x && fitB xa.length xb.length ya yb) = true by rw [q2, E.out]; rfl)
  clear q2
  obtain ⟨hc, hk, hp, b1, b2⟩ := start_ok D.out
  have hch := Lib.hid hc
  have hkh := Lib.hid hk
  clear hc hk
  go_wp2_with fail
  refine wp_region_held_drew (S := fun w' => w'.cell? ⟨w.heap.size, 0, none⟩ = some (.slice a1 xa.length d1) ∧ w'.cell? ⟨w.heap.size, 1, none⟩ = some (.slice a2 xb.length d2) ∧ w'.cell? ⟨w.heap.size, 2, none⟩ = some (.slice a3 x.length d3) ∧ w'.cell? ⟨w.heap.size + 1, 0, none⟩ = some (.slice a4 ya.length d4) ∧ w'.cell? ⟨w.heap.size + 1, 1, none⟩ = some (.slice a5 yb.length d5)) (by kernel_rfl) ?_ (fun hHeld => ?_)
  · exact ⟨bC_0_c0, bC_0_c1, bC_0_c2, bM_0_c0, bM_0_c1⟩
  refine HT 0 rfl ?_
  try simp only [AP]
  refine HR 1 rfl fun K hK => ?_
  go_simp
  refine (CodeW.specV (hsa.out.new h1 N0d) (hsb.out.new h1 N0d) (hs.out.new h1 N0d) (by omega)).mono ?_
  rintro e w1 ⟨rfl, hn1⟩
  have N1 := N0d.trans hn1
  have z1 := hn1.size
  have bC_1 := heap_new hn1 bC_0d
  have bM_1 := heap_new hn1 bM_0d
  have bR_1 := heap_new hn1 bR_0d
  obtain ⟨bC_1_c0, bC_1_c1, bC_1_c2⟩ := cells3 bC_1
  obtain ⟨bM_1_c0, bM_1_c1⟩ := cells2 bM_1
  rw [E.out]
  go_simp
  refine hK.out _ _ ?_ (fun hHeld2 => ?_)
  · exact ⟨bC_1_c0, bC_1_c1, bC_1_c2, bM_1_c0, bM_1_c1⟩
  clear hK K hHeld
  have hHeld := hHeld2
  clear hHeld2
  try simp only [AP]
  refine HT 2 rfl ?_
  try simp only [AP]
  refine HT 3 rfl ?_
  try simp only [AP]
  refine HT 4 rfl ?_
  try simp only [AP]
  refine HT 6 rfl ?_
  try simp only [AP]
  refine HR 5 rfl fun K hK => ?_
  go_simp
  refine (Decl.l6Heads _ _ _ _ _ _ _).mono ?_
  rintro e w2 ⟨rfl, hn2⟩
  have N2 := N1.trans hn2
  have z2 := hn2.size
  have bC_2 := heap_new hn2 bC_1
  have bM_2 := heap_new hn2 bM_1
  have bR_2 := heap_new hn2 bR_1
  obtain ⟨bC_2_c0, bC_2_c1, bC_2_c2⟩ := cells3 bC_2
  obtain ⟨bM_2_c0, bM_2_c1⟩ := cells2 bM_2
  go_simp
  refine hK.out _ _ ?_ (fun hHeld2 => ?_)
  · exact ⟨bC_2_c0, bC_2_c1, bC_2_c2, bM_2_c0, bM_2_c1⟩
  clear hK K hHeld
  have hHeld := hHeld2
  clear hHeld2
  try simp only [AP]
  refine HR 7 rfl fun K hK => ?_
  go_simp
  refine (Decl.fits (hra.out.new h2 N2) (hrb.out.new h2 N2) (by omega)).mono ?_
  rintro e w3 ⟨rfl, hn3⟩
  have N3 := N2.trans hn3
  have z3 := hn3.size
  have bC_3 := heap_new hn3 bC_2
  have bM_3 := heap_new hn3 bM_2
  have bR_3 := heap_new hn3 bR_2
  obtain ⟨bC_3_c0, bC_3_c1, bC_3_c2⟩ := cells3 bC_3
  obtain ⟨bM_3_c0, bM_3_c1⟩ := cells2 bM_3
  rw [F.out]
  go_simp
  refine hK.out _ _ ?_ (fun hHeld2 => ?_)
  · exact ⟨bC_3_c0, bC_3_c1, bC_3_c2, bM_3_c0, bM_3_c1⟩
  clear hK K hHeld
  have hHeld := hHeld2
  clear hHeld2
  try simp only [AP]
  refine HT 8 rfl ?_
  try simp only [AP]
  refine HT 9 rfl ?_
  try simp only [AP]
  refine wpAnyH_done (by kernel_rfl) ?_ _
  have cl := heap_lt bC_3
  have ml := heap_lt bM_3
  go_wp2_with fail
  refine (l6Run w3 lo hi lo' hi' _ _ _ _ _ _ _ _ _ _ (hsa.out.new h1 N3) (hsb.out.new h1 N3) (hs.out.new h1 N3) (by have := N3.size; omega) (hra.out.new h2 N3) (hrb.out.new h2 N3) (by have := N3.size; omega) m0 m1 m2 hch.out hkh.out b2).mono ?_
  rintro e w4 hret
  rw [← runR_yes D.out] at hret
  obtain ⟨ua, ub, ve, p, q, rfl, hn4, hMO, g1, g2, hE, ha⟩ := hret
  obtain ⟨⟨a6, d6, e6⟩, a7, d7, e7⟩ := hMO.lens
  subst e6; subst e7
  have hMh := Lib.hid hMO
  have hEh := Lib.hid hE
  have hah := Lib.hid ha
  have hEl := hE.lt
  have z4 := hn4.size
  have N4 := N3.trans hn4
  have z3 := N3.size
  have bR_4 := heap_new hn4 bR_3
  have hNh := Lib.hid N4
  clear hMO hE ha hn4 N4
  obtain ⟨e0_, e1_⟩ := cells2 bR_4
  have ef_ := frozen_of_heap bR_4
  have rl_ := heap_lt bR_4
  have rl3 := heap_lt bR_3
  go_wp2
  have hkz := setMany_kp (w.heap.size + 1 + 1) [.slice a6 (resZ (runR xa xb x ya yb)).v.length d6, .slice a7 (resZ (runR xa xb x ya yb)).a.length d7] w4 0
  have zs := setMany_size (w.heap.size + 1 + 1) [.slice a6 (resZ (runR xa xb x ya yb)).v.length d6, .slice a7 (resZ (runR xa xb x ya yb)).a.length d7] w4 0
  have hR := setMany_row [.slice a6 (resZ (runR xa xb x ya yb)).v.length d6, .slice a7 (resZ (runR xa xb x ya yb)).a.length d7] bR_4 rfl
  have hqs : q ≤ (setMany w4 (w.heap.size + 1 + 1) 0 [.slice a6 (resZ (runR xa xb x ya yb)).v.length d6, .slice a7 (resZ (runR xa xb x ya yb)).a.length d7]).heap.size := by omega
  refine bodyPost_ret (v := .tuple #[.agg #[.slice a6 (resZ (runR xa xb x ya yb)).v.length d6, .slice a7 (resZ (runR xa xb x ya yb)).a.length d7], ve, .bool (resT (runR xa xb x ya yb))]) (results_cell_tmp2 rfl _ _ _ _ _ _ _ _ _ rfl rfl rfl hR Try.underlying29 rfl (by kernel_rfl)) rfl ?_
  exact ⟨_, _, _, p, q, rfl, New.one hNh.out hkz (by omega), hMh.out.kp hkz (fun b e => .inl (by omega)), by omega, hqs, (hEh.out.kp hkz (fun b hb e => by have := hEl b hb; omega)).mono (by omega), hah.out⟩
end Go.Proofs.Ytbicpkmlionldaa.RunS
