/- (impl.Memory).own and spec.l3Copy: a memory of the call's own with the same values. Condition: bounds on the lengths. -/
import Derived.Test.YtckikiaockkmbaaAppM
import Derived.Test.YtckikiaockkmbaaAppS
import Derived.Test.YtckikiaockkmbaaMarkC
import Derived.Deep.RegionHeld3
import Derived.Deep.RegionWith
import Derived.Deep.DeepCutAuto
import Derived.StillTailTactics
import Derived.WalkKit
import Derived.ProofKit
import Derived.Test.YtckikiaockkmbaaShort
namespace Go.Proofs.Ytckikiaockkmbaa.OwnM
open Go.RowKit Kit
set_option linter.unusedVariables false
theorem _root_.Go.Proofs.Ytckikiaockkmbaa.OwnF.mk' {α : Type} {n : Nat} {enc : α → Nat → Value} {w : World} {base b cap : Nat} {T : TypeId} {cs : Array Value} {xs : List α} (hh : w.heap[b]? = some (.cells cs T (0, 0))) (hb : base ≤ b) (hcap : xs.length ≤ cap) (hm : cap ≤ maxLen) (hs : cs.size = cap * n)
    (hc : ∀ i (hi : i < xs.length) t, t < n → cs[i * n + t]? = some (enc xs[i] t)) : OwnF n enc w base T (.slice (some ⟨b, 0, none⟩) xs.length cap) xs := by
  have hle : xs.length * n ≤ cs.size := by rw [hs]; exact Nat.mul_le_mul_right _ hcap
  refine ⟨cs.toList.take (xs.length * n), ⟨by simp [List.length_take]; omega, .inr ⟨b, cap, cs, rfl, hb, hh, hcap, hm, hs, rfl⟩⟩, fun i hi t ht => ?_⟩
  have hlt : i * n + t < xs.length * n := by
    have : (i + 1) * n ≤ xs.length * n := Nat.mul_le_mul_right _ hi
    rw [Nat.add_mul] at this; omega
  rw [List.getElem?_take, if_pos hlt]
  simpa using hc i hi t ht
/-- an element of one cell is stored -/
theorem _root_.Go.Proofs.Ytckikiaockkmbaa.OwnF.set1 {α : Type} {enc : α → Nat → Value} {w : World} {base b cap : Nat} {o : Nat} {T : TypeId} {xs : List α} (h : OwnF 1 enc w base T (.slice (some ⟨b, o, none⟩) xs.length cap) xs) (j : Nat) (hj : j < xs.length) (y : α) :
    OwnF 1 enc (w.setCell ⟨b, j, none⟩ (enc y 0)) base T (.slice (some ⟨b, o, none⟩) xs.length cap) (xs.set j y) := by
  rcases h.form with ⟨e, e2⟩ | ⟨g, cap', cs, e, hb, hl, hm, hh, hs, hc⟩
  · cases e2
  · cases e
    have := OwnF.mk' (enc := enc) (n := 1) (xs := xs.set j y) (base := base) (setCell_heap (o := j) hh (enc y 0)) hb (by simpa using hl) hm (by simpa using hs) (fun i hi t ht => by
      obtain rfl : t = 0 := by omega
      have hi' : i < xs.length := by simpa using hi
      rw [Nat.mul_one, Nat.add_zero, Array.getElem?_setIfInBounds]
      by_cases e : j = i
      · subst e; simp; omega
      · have := hc i hi' 0 (by omega)
        rw [Nat.mul_one, Nat.add_zero] at this
        simp only [e, if_false, List.getElem_set_ne e]; exact this)
    rw [List.length_set] at this
    exact this
theorem _root_.Go.Proofs.Ytckikiaockkmbaa.RowsO.one {w : World} {base : Nat} {T : TypeId} {vs : List Value} {l : List (List Int)} (h : RowsO w base T vs l) : ∀ y ∈ vs, y.oneCell' = true := fun y hy => by
  obtain ⟨xs, ho⟩ := h.mem hy
  rcases ho.form with ⟨_, e⟩ | ⟨b, c, cs, e, _⟩ <;> rw [e] <;> rfl
/-- where own stands behind its first statement -/
def Own1 (w wc : World) (ya : List Int) (vs : List Value) : Prop := ∃ a3 d3 a4 d4 mid, New w wc ∧ wc.heap[w.heap.size]? = some (.cells #[.slice a3 ya.length d3, .slice a4 vs.length d4] 79) ∧ wc.heap[w.heap.size + 1]? = some (.cells #[.slice none 0 0, .slice none 0 0] 79) ∧
  w.heap.size + 2 ≤ mid ∧ mid ≤ wc.heap.size ∧ OwnR 1 encI wc (w.heap.size + 2) mid 3 (.slice a3 ya.length d3) ya ∧ OwnF 1 encV wc mid 34 (.slice a4 vs.length d4) vs
/-- rows before j are new, rows from j on the old ones -/
def OwnL (w wr : World) (lo : Nat) (v : Value) (vs : List Value) (yb : List (List Int)) (j : Nat) : Prop := ∃ us, us.length = j ∧ OwnF 1 encV wr lo 34 v (us ++ vs.drop j) ∧ RowsO wr lo 3 us (yb.take j) ∧ ∀ x ∈ us, ∀ b, v.ownBlock = some b → x.ownBlock ≠ some b
theorem OwnL.zero {w wr : World} {lo : Nat} {v : Value} {vs : List Value} {yb : List (List Int)} (h : OwnF 1 encV wr lo 34 v vs) : OwnL w wr lo v vs yb 0 :=
  ⟨[], rfl, by simpa using h, by simpa using RowsO.nil _ _ _, fun x hx => by simp at hx⟩
theorem OwnL.step {w wr w1 : World} {lo : Nat} {a : Option Addr} {d : Nat} {vs : List Value} {yb : List (List Int)} {j : Nat} (h : OwnL w wr lo (.slice a vs.length d) vs yb j) (hl : vs.length = yb.length) (hj : j < vs.length) (hlo : lo ≤ wr.heap.size) (k : New wr w1) {r : Value} (hr : OwnF 1 encI w1 wr.heap.size 3 r (yb[j]'(by omega))) :
    ∃ b, a = some ⟨b, 0, none⟩ ∧ lo ≤ b ∧ b < wr.heap.size ∧ wr.cell? ⟨b, j, none⟩ = some vs[j] ∧ w1.frozen? ⟨b, j, none⟩ = false ∧ (∃ u, w1.cell? ⟨b, j, none⟩ = some u) ∧ OwnL w (w1.setCell ⟨b, j, none⟩ r) lo (.slice a vs.length d) vs yb (j + 1) := by
  obtain ⟨us, h1, h2, h3, h4⟩ := h
  have hlen : (us ++ vs.drop j).length = vs.length := by simp; omega
  rw [← hlen] at h2
  rcases h2.form with ⟨e, _⟩ | ⟨b, cap', cs, e, hb, hlc, hm, hh, hs, hc⟩
  · rw [e] at hlen; simp at hlen; omega
  · cases e
    have hbw := heap_lt hh
    have hh1 : w1.heap[b]? = some (.cells cs 34 (0, 0)) := heap_new k hh
    have hcj := hc j (by omega) 0 (by omega)
    rw [Nat.mul_one, Nat.add_zero] at hcj
    have hg : (us ++ vs.drop j)[j]'(by omega) = vs[j] := by
      rw [List.getElem_append_right (by omega)]; simp [h1]
    have hbo : (Value.slice (some ⟨b, 0, none⟩) vs.length d).ownBlock = some b := by simp [Value.ownBlock]
    refine ⟨b, rfl, hb, hbw, (cell_of_heap hh j).trans (by rw [hcj, hg]; rfl), frozen_of_heap hh1 j, ⟨_, (cell_of_heap hh1 j).trans hcj⟩, us ++ [r], by simp [h1], ?_, ?_, ?_⟩
    · have := (h2.new k).set1 j (by omega) r
      rw [hlen] at this
      have e2 : (us ++ vs.drop j).set j r = us ++ [r] ++ vs.drop (j + 1) := by
        rw [List.set_append_right _ _ (by omega), List.append_assoc]
        congr 1
        rw [h1, Nat.sub_self, List.drop_eq_getElem_cons hj]; rfl
      rw [e2] at this
      exact this
    · have hs3 := h3.snoc k hlo hr
      rw [List.take_succ_eq_append_getElem (by omega)]
      refine hs3.kp (S := fun x => x = b) ((Kp.refl (fun x => x = b) w1).setCell (.inl rfl) r) fun x hx c hc hS => ?_
      subst hS
      rcases List.mem_append.1 hx with q | q
      · exact h4 x q c hbo hc
      · rw [List.mem_singleton] at q
        subst q
        have := (hr.lt c hc).1; omega
    · intro x hx c hc hxc
      rw [hbo] at hc; cases hc
      rcases List.mem_append.1 hx with q | q
      · exact h4 x q b hbo hxc
      · rw [List.mem_singleton] at q
        subst q
        have := (hr.lt b hxc).1; omega
theorem OwnL.at' {w wr : World} {lo : Nat} {a : Option Addr} {d : Nat} {vs : List Value} {yb : List (List Int)} {j : Nat} (h : OwnL w wr lo (.slice a vs.length d) vs yb j) (hj : j < vs.length) : ∃ b, a = some ⟨b, 0, none⟩ ∧ lo ≤ b ∧ b < wr.heap.size ∧ wr.cell? ⟨b, j, none⟩ = some vs[j] := by
  obtain ⟨us, h1, h2, h3, h4⟩ := h
  have hlen : (us ++ vs.drop j).length = vs.length := by simp; omega
  rw [← hlen] at h2
  rcases h2.form with ⟨e, _⟩ | ⟨b, cap', cs, e, hb, hlc, hm, hh, hs, hc⟩
  · rw [e] at hlen; simp at hlen; omega
  · cases e
    have hcj := hc j (by omega) 0 (by omega)
    rw [Nat.mul_one, Nat.add_zero] at hcj
    have hg : (us ++ vs.drop j)[j]'(by omega) = vs[j] := by
      rw [List.getElem_append_right (by omega)]; simp [h1]
    exact ⟨b, rfl, hb, heap_lt hh, (cell_of_heap hh j).trans (by rw [hcj, hg]; rfl)⟩
theorem OwnL.kp {w wr w1 : World} {lo : Nat} {v : Value} {vs : List Value} {yb : List (List Int)} {j : Nat} (h : OwnL w wr lo v vs yb j) {S : Nat → Prop} (k : Kp S wr w1) (hs : ∀ b, S b → b < lo) : OwnL w w1 lo v vs yb j := by
  obtain ⟨us, h1, h2, h3, h4⟩ := h
  refine ⟨us, h1, h2.kp k fun b hb hS => ?_, h3.kp k fun x hx b hb hS => ?_, h4⟩
  · have := (h2.lt b hb).1; have := hs b hS; omega
  · obtain ⟨xs, ho⟩ := h3.mem hx
    have := (ho.lt b hb).1; have := hs b hS; omega
theorem OwnL.done {w wr : World} {lo : Nat} {v : Value} {vs : List Value} {yb : List (List Int)} (h : OwnL w wr lo v vs yb vs.length) (hl : vs.length = yb.length) : MatO wr lo wr.heap.size 34 3 v yb := by
  obtain ⟨us, h1, h2, h3, h4⟩ := h
  rw [List.drop_of_length_le (Nat.le_refl _), List.append_nil] at h2
  rw [hl, List.take_of_length_le (Nat.le_refl _)] at h3
  exact MatO.of us h2 h3 h4
set_option maxHeartbeats 2000000 in
set_option maxRecDepth 100000 in
theorem ownMem (w : World) (lo hi : Nat) (va vb : Value) (ya : List Int) (yb : List (List Int)) (h : MarkC.MemO w lo hi va vb ya yb) (hh : hi ≤ w.heap.size) (m0 : ya.length ≤ 1099511627776) (m1 : yb.length ≤ 1073741824) (m2 : ∀ x ∈ yb, x.length ≤ 1099511627776) :
    Calls Try.prog 122 #[.agg #[va, vb]] w fun e w' => ∃ ua ub, e = .returned (.agg #[ua, ub]) ∧ New w w' ∧ MarkC.MemO w' w.heap.size w'.heap.size ua ub ya yb := by
  obtain ⟨p1, p2, p3, p4, q1, q2, qx, qy, qz, hA, hB⟩ := h
  obtain ⟨a1, d1, rfl, l1⟩ := hA.reads.len
  obtain ⟨a2, d2, rfl, l2⟩ := hB.reads.len
  go_enter Try.func122, Try.ntmps122
  go_wp2_with fail
  have N0 : New w (((w.alloc (.cells #[.slice a1 ya.length d1, .slice a2 yb.length d2] 79)).alloc (.cells #[.slice none 0 0, .slice none 0 0] 79))) := ((Kp.refl _ _).alloc _).alloc _
  have bM : (((w.alloc (.cells #[.slice a1 ya.length d1, .slice a2 yb.length d2] 79)).alloc (.cells #[.slice none 0 0, .slice none 0 0] 79))).heap[w.heap.size]? = some (.cells #[.slice a1 ya.length d1, .slice a2 yb.length d2] 79) := heap_old (alloc_heap _ _)
  have bR : (((w.alloc (.cells #[.slice a1 ya.length d1, .slice a2 yb.length d2] 79)).alloc (.cells #[.slice none 0 0, .slice none 0 0] 79))).heap[w.heap.size + 1]? = some (.cells #[.slice none 0 0, .slice none 0 0] 79) := heap_at (by simp)
  have z0 : w.heap.size + 1 < (((w.alloc (.cells #[.slice a1 ya.length d1, .slice a2 yb.length d2] 79)).alloc (.cells #[.slice none 0 0, .slice none 0 0] 79))).heap.size := by simp
  generalize (((w.alloc (.cells #[.slice a1 ya.length d1, .slice a2 yb.length d2] 79)).alloc (.cells #[.slice none 0 0, .slice none 0 0] 79))) = w0 at *
  have hA0 := Lib.hid (hA.new (by omega) N0).own
  obtain ⟨vs, hO, hRow, hT, hD⟩ := id hB
  have hone : ∀ y ∈ vs, y.oneCell' = true := hRow.one
  have hB0 := Lib.hid (hO.new (by omega) N0).own
  have hone' := Lib.hid hone
  have hRow' := Lib.hid hRow
  have hT' := Lib.hid hT
  have hD' := Lib.hid hD
  have hvl := Lib.hid hRow.len
  clear hA hB hO hone hRow hT hD
  obtain ⟨c0, c1⟩ := cells2 bM
  have c0f := frozen_of_heap bM
  have kd : New w0 w0.drew := (Kp.refl _ _).drew
  have hA1 := Lib.hid (hA0.out.new kd)
  have hB1 := Lib.hid (hB0.out.new kd)
  clear hA0 hB0
  go_cut [] (fun wc => Own1 w wc ya vs)
  case first =>
    go_region_with (first | (go_at_call 143; refine (AppM.cloneM _ p3 _ vs hone'.out (hB1.out.new hn1) (by have := hvl.out; omega)).mono ?_; rintro e w2 ⟨v2, rfl, hn2, hv2⟩; obtain ⟨a4, d4, rfl, _⟩ := hv2.reads.len; have N2 := (N0.trans kd).trans (hn1.trans hn2); have bM2 := heap_new ((kd.trans hn1).trans hn2) bM; have c02 := cell_of_heap bM2 0; have c12 := cell_of_heap bM2 1; have cf2 := frozen_of_heap bM2) | (go_at_call 87; refine (AppM.cloneI _ p1 _ ya hA1.out (by omega)).mono ?_; rintro e w1 ⟨v1, rfl, hn1, hv1⟩; obtain ⟨a3, d3, rfl, _⟩ := hv1.reads.len; have bM1 := heap_new (kd.trans hn1) bM; have c01 := cell_of_heap bM1 0; have c11 := cell_of_heap bM1 1; have cf1 := frozen_of_heap bM1))
    all_goals
      have hv1b := Lib.hid (hv1.new hn2)
      have hv1t := Lib.hid (show ∀ b, (Value.slice a3 ya.length d3).ownBlock = some b → b < w1.heap.size from fun b hb => (hv1.lt b hb).2)
      have bR2 := heap_new ((kd.trans hn1).trans hn2) bR
      have z1 := hn1.size
      have z2 := hn2.size
      have zd : w0.heap.size = w0.drew.heap.size := rfl
      go_wp2_with fail
      go_meet
      have kk : One w.heap.size w2 ((w2.setCell ⟨w.heap.size, 0, none⟩ (.slice a3 ya.length d3)).setCell ⟨w.heap.size, 1, none⟩ (.slice a4 vs.length d4)) := ((Kp.refl (fun k => k = w.heap.size) _).setCell (.inl rfl) _).setCell (.inl rfl) _
      have := kk.size
      exact ⟨a3, d3, a4, d4, w1.heap.size, New.one N2 kk (Nat.le_refl _), setCell_heap (setCell_heap bM2 _) _, heap_set (heap_set bR2 (by omega) _) (by omega) _, by omega, by omega, ⟨(hv1b.out.kp kk (fun b hb e => by have := (hv1b.out.lt b hb).1; omega)).mono (by omega), hv1t.out⟩, hv2.kp kk (fun b hb e => by have := (hv2.lt b hb).1; omega)⟩
  case rest =>
    obtain ⟨a3, d3, a4, d4, m, N1, bM1, bR1, q3, q4, oA, oB⟩ := hcut
    clear hA1 hB1 kd N0 bM bR c0 c1 c0f z0
    have cc1 := cell_of_heap bM1 1
    have hL := OwnL.zero (w := w) (yb := yb) oB
    have lvs : vs.length ≤ 1073741824 := by have := hvl.out; omega
    clear oB
    go_wp2_with fail
    clear cc1
    go_loopw [16] (fun i wr => ∃ j : Nat, j ≤ vs.length ∧ i = .int .i64 j ∧ New w wr ∧ wr.heap[w.heap.size]? = some (.cells #[.slice a3 ya.length d3, .slice a4 vs.length d4] 79) ∧ wr.heap[w.heap.size + 1]? = some (.cells #[.slice none 0 0, .slice none 0 0] 79) ∧ m ≤ wr.heap.size ∧ OwnR 1 encI wr (w.heap.size + 2) m 3 (.slice a3 ya.length d3) ya ∧ OwnL w wr m (.slice a4 vs.length d4) vs yb j) (fun i _ => vs.length - (intOf i).toNat)
    case atStart => exact ⟨0, Nat.zero_le _, rfl, N1, bM1, bR1, q4, oA, hL⟩
    case round =>
      obtain ⟨j, hj, rfl, N2, bM2, bR2, q5, oA2, hL2⟩ := hrel
      clear hL oA bM1 bR1 N1
      have cc := cell_of_heap bM2 1
      by_cases hlt : j < vs.length
      · obtain ⟨b, rfl, hb1, hb2, cv⟩ := hL2.at' hlt
        have hLh := Lib.hid hL2
        have hvr := Lib.hid ((hRow'.out.own j hlt (by have := hvl.out; omega)).new N2)
        have hx := m2 _ (List.getElem_mem (l := yb) (n := j) (by have := hvl.out; omega))
        clear hL2
        go_wp2_with fail
        clear cv
        have kd := (Kp.refl (fun _ => False) wr).drew
        have bM3 := heap_new kd bM2
        have cM3 := cell_of_heap bM3 1
        go_region_held3 (fun w' => w'.cell? ⟨w.heap.size, 1, none⟩ = some (.slice (some ⟨b, 0, none⟩) vs.length d4)) (first | exact cM3 | exact cM4 | exact (cell_of_heap (heap_set bM4 (by omega) _) 1))
          (first | (go_at_call 87; refine (AppM.cloneI _ p3 _ _ (hvr.out.new kd) hx).mono ?_; rintro e w1 ⟨v1, rfl, hn1, hv1⟩; obtain ⟨b', hbb, _, _, _, cf4, ⟨xx, cx5⟩, hL4⟩ := hLh.out.step hvl.out hlt q5 (kd.trans hn1) hv1; cases hbb; have hL5 := Lib.hid hL4; clear hL4; obtain ⟨a5, d5, rfl, _⟩ := hv1.reads.len; have bM4 := heap_new hn1 bM3; have cM4 := cell_of_heap bM4 1))
        have kk : One b w1 (w1.setCell ⟨b, j, none⟩ (.slice a5 yb[j].length d5)) := (Kp.refl (fun k => k = b) _).setCell (.inl rfl) _
        have N3 := New.one ((N2.trans kd).trans hn1) kk (by omega)
        have z1 := hn1.size
        have zd : wr.heap.size = wr.drew.heap.size := rfl
        have zk := kk.size
        have oA3 := ((oA2.new q5 kd).new (by omega) hn1).kp kk (fun b e => .inr (by omega))
        have bM5 := heap_set (o := j) bM4 (show w.heap.size ≠ b by omega) (.slice a5 yb[j].length d5)
        have bR5 := heap_set (o := j) (heap_new hn1 (heap_new kd bR2)) (show w.heap.size + 1 ≠ b by omega) (.slice a5 yb[j].length d5)
        clear cM3 cM4 bM3 bM4 cx5 cf4 hv1 bR2 bM2 cc oA2 hLh hvr
        go_wp2
        go_roundw
        case rel => exact ⟨j + 1, by omega, by go_num, N3, bM5, bR5, by omega, oA3, hL5.out⟩
        case measure => simp [intOf]; omega
      · have hge : vs.length ≤ j := by omega
        have hL3 : OwnL w wr m (.slice a4 vs.length d4) vs yb vs.length := by
          have e : j = vs.length := by omega
          subst e; exact hL2
        clear hL2
        have cc0 := cell_of_heap bM2 0
        obtain ⟨cr0, cr1⟩ := cells2 bR2
        have crf := frozen_of_heap bR2
        go_wp2
        have kz : One (w.heap.size + 1) wr ((wr.setCell ⟨w.heap.size + 1, 0, none⟩ (.slice a3 ya.length d3)).setCell ⟨w.heap.size + 1, 1, none⟩ (.slice a4 vs.length d4)) := ((Kp.refl (fun k => k = w.heap.size + 1) _).setCell (.inl rfl) _).setCell (.inl rfl) _
        have hR := setCell_heap (o := 1) (setCell_heap (o := 0) bR2 (.slice a3 ya.length d3)) (.slice a4 vs.length d4)
        have hsz : ((wr.setCell ⟨w.heap.size + 1, 0, none⟩ (.slice a3 ya.length d3)).setCell ⟨w.heap.size + 1, 1, none⟩ (.slice a4 vs.length d4)).heap.size = wr.heap.size := by simp
        have hL4 := (hL3.kp kz (fun b e => by omega)).done hvl.out
        refine bodyPost_ret (results_cell_row rfl _ _ _ _ _ _ _ rfl hR Try.underlying79 rfl (by kernel_rfl)) rfl ⟨_, _, rfl, New.one N2 kz (by omega), .of m (by omega) (by omega) ((oA2.kp kz (fun b e => .inl (by omega))).mono (by omega) (Nat.le_refl _)) hL4⟩
end Go.Proofs.Ytckikiaockkmbaa.OwnM
