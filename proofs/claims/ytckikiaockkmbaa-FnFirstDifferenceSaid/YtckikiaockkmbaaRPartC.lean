/- PublicPart and TrustedPart of impl and of spec: what is cleared. Conditions: the lists fit, labels are valid; bounds on lengths; (spec) at most 2^20 nodes. -/
import Derived.Test.YtckikiaockkmbaaRPartP
import Derived.Test.YtckikiaockkmbaaRDrawM
import Derived.Test.YtckikiaockkmbaaRP5
import Derived.Test.YtckikiaockkmbaaRP4
import Derived.Lib.SliceRun
import Derived.Deep.DeepCutAuto
import Derived.Test.YtckikiaockkmbaaRP1
namespace Go.Proofs.Ytckikiaockkmbaa.PartC
open Go.RowKit Kit Val MarkC PartP
set_option linter.unusedVariables false
theorem four : ∀ (l : List Int), l.length = 4 → ((((l.set 0 0).set 1 0).set 2 0).set 3 0) = List.replicate l.length 0
  | [_, _, _, _], _ => rfl
/-- one row of a memory -/
theorem rows {w : World} {lo hi n d : Nat} {a : Option Addr} {va : Value} {ya : List Int} {yb : List (List Int)} (h : MemO w lo hi va (.slice a n d) ya yb) (k : Nat) (hk : k < yb.length) (h4 : yb[k].length = 4) :
    ∃ b c d2, a = some ⟨b, 0, none⟩ ∧ lo ≤ b ∧ b < hi ∧ w.cell? ⟨b, k, none⟩ = some (.slice (some ⟨c, 0, none⟩) 4 d2) ∧ lo ≤ c ∧ c < hi ∧ (∀ i (h : i < yb[k].length), w.cell? ⟨c, i, none⟩ = some (.int .i64 yb[k][i])) ∧ (∀ i, w.frozen? ⟨c, i, none⟩ = false) ∧
      (∀ j (hj : j < yb[k].length) z, MemO (w.setCell ⟨c, j, none⟩ (.int .i64 z)) lo hi va (.slice a n d) ya (yb.set k (yb[k].set j z))) ∧
      MemO (w.setCells c 0 (List.replicate 4 (.int .i64 0))) lo hi va (.slice a n d) ya (yb.set k (List.replicate yb[k].length 0)) := by
  obtain ⟨m1, m2, m3, m4, r1, r2, r3, r4, r5, B, C⟩ := h
  obtain ⟨b, s, rfl, hb1, hb2, hcell, hO, hne, hset⟩ := C.row k hk
  rcases hO.form with ⟨e, _⟩ | ⟨c, cap, cs, rfl, hc1, _, _, hh, hn, hc⟩
  · rw [e] at h4; cases h4
  · have hcc := hne c (ownBlock_at _ _ _)
    obtain ⟨_, c', e', hcs, hf⟩ := own_cells hO (by omega)
    cases e'
    have kk : ∀ (w1 : World) (j : Nat) (z : Int), Kp (fun x => x = c) w w1 → Kp (fun x => x = c) w (w1.setCell ⟨c, j, none⟩ (.int .i64 z)) := fun w1 j z k1 => k1.setCell (.inl rfl) _
    have fin : ∀ (w' : World) (x : List Int), Kp (fun x => x = c) w w' → OwnF 1 encI w' m3 3 (.slice (some ⟨c, 0, none⟩) yb[k].length cap) x → MemO w' lo hi va (.slice (some ⟨b, 0, none⟩) n d) ya (yb.set k x) := fun w' x q hx =>
      ⟨m1, m2, m3, m4, r1, r2, r3, r4, r5, B.kp q (fun x e => by omega), hset _ _ (q.mono fun x _ e => by subst e; exact ownBlock_at _ _ _) hx⟩
    refine ⟨b, c, cap, rfl, by omega, by omega, by rw [hcell, h4], by omega, by omega, hcs, hf, fun j hj z => fin _ _ (kk _ j z (Kp.refl _ _)) (hO.set1 (enc := encI) j hj z), ?_⟩
    refine fin _ _ (kk _ 3 0 (kk _ 2 0 (kk _ 1 0 (kk _ 0 0 (Kp.refl _ _))))) ?_
    have o0 := hO.set1 (enc := encI) 0 (by omega) 0
    rw [show yb[k].length = (yb[k].set 0 0).length by simp] at o0
    have o1 := o0.set1 (enc := encI) 1 (by simp; omega) 0
    rw [show (yb[k].set 0 0).length = ((yb[k].set 0 0).set 1 0).length by simp] at o1
    have o2 := o1.set1 (enc := encI) 2 (by simp; omega) 0
    rw [show ((yb[k].set 0 0).set 1 0).length = (((yb[k].set 0 0).set 1 0).set 2 0).length by simp] at o2
    have o3 := o2.set1 (enc := encI) 3 (by simp; omega) 0
    rw [four _ h4] at o3
    rw [show (((yb[k].set 0 0).set 1 0).set 2 0).length = yb[k].length by simp] at o3
    exact o3
/-- cleared so far, in the box bo -/
def Clr (w : World) (bo lo1 : Nat) (ua ub : Value) (ya : List Int) (yb : List (List Int)) (wr : World) : Prop := New w wr ∧ wr.heap[w.heap.size + 1]? = some (.cells #[.slice none 0 0, .slice none 0 0] 79 (0, 0)) ∧ wr.heap[bo]? = some (.cells #[ua, ub] 79 (0, 0)) ∧ MemO wr lo1 bo ua ub ya yb
/-- a memory of the call's own -/
def GotM (w : World) (ya : List Int) (yb : List (List Int)) (e : Ending) (w' : World) : Prop := ∃ ua ub, e = .returned (.agg #[ua, ub]) ∧ New w w' ∧ MemO w' w.heap.size w'.heap.size ua ub ya yb
set_option maxHeartbeats 8000000 in
set_option maxRecDepth 100000 in
theorem cleared (f : Nat) (he : ∀ args w, (callFunc f args).run Try.prog w = .ok (.enter f args) w) (q : Int → Bool) (hq : ∀ (w : World) (x : Int), Calls Try.prog f #[.int .i64 x] w fun e w' => e = .returned (.bool (q x)) ∧ w = w')
    (w : World) (lo hi lo' hi' : Nat) (va vb ta tb : Value) (xa xb ya : List Int) (yb : List (List Int)) (sa : IntsR w lo hi ta xa) (sb : IntsR w lo hi tb xb) (hO : MemO w lo' hi' va vb ya yb) (h1 : hi ≤ w.heap.size) (h2 : hi' ≤ w.heap.size)
    (l1 : ya.length = xa.length) (l2 : yb.length = xb.length) (l3 : ∀ y ∈ yb, y.length = 4) (m1 : ya.length ≤ 1000000) (m2 : yb.length ≤ 1000000) :
    Calls Try.prog 90 #[ta, tb, .agg #[va, vb], .func (.func f) #[] #[]] w (GotM w (clr q xa ya) (clrM q xb yb)) := by
  obtain ⟨a1, d1, rfl, _⟩ := sa.len
  obtain ⟨a2, d2, rfl, _⟩ := sb.len
  have H := Lib.hid hq
  have hl1 := Lib.hid l1
  have hl2 := Lib.hid l2
  have hl3 := Lib.hid l3
  have l1' : xa.length ≤ ya.length := by omega
  have l1'' : ya.length ≤ xa.length := by omega
  have l2' : xb.length ≤ yb.length := by omega
  have l2'' : yb.length ≤ xb.length := by omega
  clear hq l1 l2 l3
  have W0 : New w ((w.alloc (.cells #[va, vb] 79)).alloc (.cells #[.slice none 0 0, .slice none 0 0] 79)) := ((Kp.refl _ _).alloc _).alloc _
  have bM_0 : ((w.alloc (.cells #[va, vb] 79)).alloc (.cells #[.slice none 0 0, .slice none 0 0] 79)).heap[w.heap.size]? = some (.cells #[va, vb] 79) := heap_old (alloc_heap _ _)
  have bR_0 : ((w.alloc (.cells #[va, vb] 79)).alloc (.cells #[.slice none 0 0, .slice none 0 0] 79)).heap[w.heap.size + 1]? = some (.cells #[.slice none 0 0, .slice none 0 0] 79) := heap_at (by simp)
  have z0 : w.heap.size + 1 < ((w.alloc (.cells #[va, vb] 79)).alloc (.cells #[.slice none 0 0, .slice none 0 0] 79)).heap.size := by simp
  have hsa := Lib.hid sa
  have hsb := Lib.hid sb
  have hOh := Lib.hid (hO.new h2 W0)
  clear sa sb hO
  go_enter Try.func90, Try.ntmps90
  go_upto_region 1 with fail
  generalize (w.alloc (.cells #[va, vb] 79)).alloc (.cells #[.slice none 0 0, .slice none 0 0] 79) = w0 at *
  obtain ⟨cM0, cM1⟩ := cells2 bM_0
  go_wp2_with fail
  refine (OwnM.ownMem w0 lo' hi' va vb ya yb hOh.out (by omega) (by omega) (by omega) (fun y hy => by have := hl3.out y hy; omega)).mono ?_
  rintro e w1 ⟨ua, ub, rfl, hn1, hM1⟩
  have z1 := hn1.size
  have bR_1 := heap_new hn1 bR_0
  have N1 := W0.trans hn1
  clear cM0 cM1 bM_0 bR_0 W0 hOh
  obtain ⟨⟨aU, dU, rfl⟩, aV, dV, rfl⟩ := hM1.lens
  have hn2 : New w1 (w1.alloc (.cells #[.slice aU ya.length dU, .slice aV yb.length dV] 79)) := (Kp.refl _ _).alloc _
  have bO_2 := alloc_heap w1 (.cells #[.slice aU ya.length dU, .slice aV yb.length dV] 79)
  have y2 : w1.heap.size < (w1.alloc (.cells #[.slice aU ya.length dU, .slice aV yb.length dV] 79)).heap.size := by simp
  have hC0 := Lib.hid (show Clr w w1.heap.size w0.heap.size (.slice aU ya.length dU) (.slice aV yb.length dV) (clrTo q xa ya 0) yb (w1.alloc (.cells #[.slice aU ya.length dU, .slice aV yb.length dV] 79)) from ⟨N1.trans hn2, heap_new hn2 bR_1, bO_2, by rw [clrTo_zero]; exact hM1.new (Nat.le_refl _) hn2⟩)
  clear hM1 bR_1 N1 hn1
  go_upto_region 2 with fail
  have hbo : w.heap.size + 1 < w1.heap.size := by omega
  clear hn2 bO_2
  generalize w1.heap.size = bo at *
  generalize w0.heap.size = lo1 at *
  generalize w1.alloc (.cells #[.slice aU ya.length dU, .slice aV yb.length dV] 79) = w2 at *
  go_wp2_with fail
  go_loopw [18] (fun i wr => ∃ j : Nat, j ≤ xa.length ∧ i = .int .i64 j ∧ bo < wr.heap.size ∧ Clr w bo lo1 (.slice aU ya.length dU) (.slice aV yb.length dV) (clrTo q xa ya j) yb wr) (fun i _ => xa.length - (intOf i).toNat)
  case atStart => exact ⟨0, Nat.zero_le _, rfl, y2, hC0.out⟩
  case round =>
    obtain ⟨j, hj, rfl, zr, N, bR, bO, hM⟩ := hrel
    clear hC0 y2
    have zw := N.size
    by_cases hlt : j < xa.length
    · obtain ⟨b, o, rfl, hb1, hb2, c0⟩ := hsa.out.at j hlt
      have g0 := (N.cell (b := b) (by omega) (fun f => f) (o + j)).trans c0
      have hclen := clrTo_length q xa ya j
      obtain ⟨gv, rfl, gl, gh, gc, gf, gs⟩ := hM.vals (by rw [hclen]; omega)
      have gcj := gc j (by rw [hclen]; omega)
      have gsj := Lib.hid (gs j (by rw [hclen]; omega) 0)
      have sy := Lib.hid (fun h => clrTo_yes (ya := ya) (q := q) hlt h)
      have sn := Lib.hid (fun h => clrTo_no (ya := ya) (q := q) hlt h)
      have hMh := Lib.hid hM
      clear c0 gc gs hM
      generalize xa[j] = x at *
      generalize hcx : (clrTo q xa ya j)[j]'_ = cx at gcj
      clear hcx hclen
      have cO0 := cell_of_heap bO 0
      go_wp2_with fail
      refine (H.out _ _).mono ?_
      rintro r w1 ⟨rfl, rfl⟩
      cases hqx : q x
      · have sn1 := Lib.hid (sn.out hqx)
        clear sy sn hqx gsj
        go_wp2
        go_roundw
        case rel => exact ⟨j + 1, by omega, by go_num, zr, N, bR, bO, by rw [sn1.out]; exact hMh.out⟩
        case measure => simp [intOf]; omega
      · have sy1 := Lib.hid (sy.out hqx)
        clear sy sn hqx
        have kk : Kp (fun c => c = gv) wr (wr.setCell ⟨gv, j, none⟩ (.int .i64 0)) := (Kp.refl (fun c => c = gv) wr).setCell (.inl rfl) _
        have zz := kk.size
        have N' := Lib.hid (New.one N kk (by omega))
        have bR' := Lib.hid ((kk.block _ (heap_lt bR) (by omega)).trans bR)
        have bO' := Lib.hid ((kk.block _ (heap_lt bO) (by omega)).trans bO)
        clear kk
        go_wp2
        go_roundw
        case rel => exact ⟨j + 1, by omega, by go_num, by omega, N'.out, bR'.out, bO'.out, by rw [sy1.out]; exact gsj.out⟩
        case measure => simp [intOf]; omega
    · have hC0 := Lib.hid (show Clr w bo lo1 (.slice aU ya.length dU) (.slice aV yb.length dV) (clr q xa ya) (clrMTo q xb yb 0) wr from ⟨N, bR, bO, by rw [clrMTo_zero, ← clrTo_all q xa ya hl1.out j (by omega)]; exact hM⟩)
      have y2 : bo < wr.heap.size := zr
      clear zr N bR bO hM zw
      go_wp2_with fail
      go_loopw [33] (fun i wr => ∃ j : Nat, j ≤ xb.length ∧ i = .int .i64 j ∧ bo < wr.heap.size ∧ Clr w bo lo1 (.slice aU ya.length dU) (.slice aV yb.length dV) (clr q xa ya) (clrMTo q xb yb j) wr) (fun i _ => xb.length - (intOf i).toNat)
      case atStart => exact ⟨0, Nat.zero_le _, rfl, y2, hC0.out⟩
      case round =>
        obtain ⟨j, hj, rfl, zr, N, bR, bO, hM⟩ := hrel
        clear hC0 y2
        have zw := N.size
        by_cases hlt : j < xb.length
        · obtain ⟨b, o, rfl, hb1, hb2, c0⟩ := hsb.out.at j hlt
          have g0 := (N.cell (b := b) (by omega) (fun f => f) (o + j)).trans c0
          have hclen := clrMTo_length q xb yb j
          have hat := clrMTo_at q xb yb j (by omega)
          have h4 := hl3.out yb[j] (List.getElem_mem _)
          obtain ⟨gv, gc, d3, rfl, gl, gh, gcj, gcl, gch, gcc, gcf, -, gs⟩ := rows hM j (by rw [hclen]; omega) (by rw [hat]; exact h4)
          have sn := Lib.hid (fun h => clrMTo_no (yb := yb) (q := q) hlt h)
          have hst := clrMTo_set q xb yb j hlt (by omega)
          have sy := Lib.hid (show q xb[j] = true → (clrMTo q xb yb j).set j (List.replicate yb[j].length 0) = clrMTo q xb yb (j + 1) from fun h => by rw [h] at hst; simpa using hst)
          rw [hat] at gs
          have hMh := Lib.hid hM
          have kk : Kp (fun c => c = gc) wr (wr.setCells gc 0 (List.replicate 4 (.int .i64 0))) := ((((Kp.refl (fun c => c = gc) wr).setCell (.inl rfl) _).setCell (.inl rfl) _).setCell (.inl rfl) _).setCell (.inl rfl) _
          have hcl := fun ty => Lib.run_clear_slice (P := Try.prog) wr 34 3 ty (.int .i64 0) Try.underlying34 (fun w => by kernel_rfl) rfl rfl gc 0 4 d3 (by omega) (fun i hi => by rw [Nat.zero_add, gcc i (by rw [hat]; omega)]; rfl) (fun i hi => gcf _)
          generalize wr.setCells gc 0 (List.replicate 4 (.int .i64 0)) = wc at *
          have zz := kk.size
          have N' := Lib.hid (New.one N kk (by omega))
          have bR' := Lib.hid ((kk.block _ (heap_lt bR) (by omega)).trans bR)
          have bO' := Lib.hid ((kk.block _ (heap_lt bO) (by omega)).trans bO)
          have gsh := Lib.hid gs
          clear c0 gcc gcf gs hM hat hst kk h4
          have sy' := sy
          clear sy
          generalize xb[j] = x at *
          have cO1 := cell_of_heap bO 1
          go_wp2_with fail
          refine (H.out _ _).mono ?_
          rintro r w1 ⟨rfl, rfl⟩
          cases hqx : q x
          · have sn1 := Lib.hid (sn.out hqx)
            clear sy' sn hqx gsh hcl N' bR' bO' zz
            go_wp2
            go_roundw
            case rel => exact ⟨j + 1, by omega, by go_num, zr, N, bR, bO, by rw [sn1.out]; exact hMh.out⟩
            case measure => simp [intOf]; omega
          · have sy1 := Lib.hid (sy'.out hqx)
            clear sy' sn hqx
            go_wp2
            go_roundw
            case rel => exact ⟨j + 1, by omega, by go_num, by omega, N'.out, bR'.out, bO'.out, by rw [← sy1.out]; exact gsh.out⟩
            case measure => simp [intOf]; omega
        · have hM2 := Lib.hid (show MemO wr lo1 bo (.slice aU ya.length dU) (.slice aV yb.length dV) (clr q xa ya) (clrM q xb yb) by rw [← clrMTo_all q xb yb hl2.out j (by omega)]; exact hM)
          obtain ⟨cO0, cO1⟩ := cells2 bO
          obtain ⟨cR0, cR1⟩ := cells2 bR
          have cRf := frozen_of_heap bR
          have cRl := heap_lt bR
          clear hM
          go_wp2
          have hkz := setMany_kp (w.heap.size + 1) [.slice aU ya.length dU, .slice aV yb.length dV] wr 0
          have zs := setMany_size (w.heap.size + 1) [.slice aU ya.length dU, .slice aV yb.length dV] wr 0
          have hR := setMany_row [.slice aU ya.length dU, .slice aV yb.length dV] bR rfl
          have hlo : w.heap.size ≤ lo1 := by omega
          have hbz := Lib.hid (show bo ≤ wr.heap.size by omega)
          exact bodyPost_ret (results_cell_row rfl _ _ _ _ _ _ _ rfl hR Try.underlying79 rfl (by kernel_rfl)) rfl ⟨_, _, rfl, New.one N hkz (by omega), (hM2.out.kp hkz (fun b e => .inl (by subst e; omega))).mono hlo (Nat.le_trans hbz.out (Nat.le_of_eq zs.symm))⟩
/-- cleared so far, in the box bo; beside it the program's box -/
def Clr2 (w : World) (bo lo1 : Nat) (ta tb tc ua ub : Value) (ya : List Int) (yb : List (List Int)) (wr : World) : Prop := New w wr ∧ wr.heap[w.heap.size]? = some (.cells #[ta, tb, tc] 37 (0, 0)) ∧ wr.heap[w.heap.size + 1 + 1]? = some (.cells #[.slice none 0 0, .slice none 0 0] 79 (0, 0)) ∧ wr.heap[bo]? = some (.cells #[ua, ub] 79 (0, 0)) ∧ MemO wr lo1 bo ua ub ya yb
end Go.Proofs.Ytckikiaockkmbaa.PartC
