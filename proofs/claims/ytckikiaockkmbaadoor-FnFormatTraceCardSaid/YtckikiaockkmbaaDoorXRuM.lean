/- RunProgram by spec: its events are a row, few enough. Conditions: bounds on lengths. -/
import Derived.Test.YtckikiaockkmbaaDoorXRuS
import Derived.Test.YtckikiaockkmbaaDoorXP5
import Derived.Test.YtckikiaockkmbaaDoorXP4
import Derived.Test.YtckikiaockkmbaaDoorXP1
namespace Go.Proofs.YtckikiaockkmbaaDoor.RuM
open Go.RowKit Kit Val MarkC EvP
set_option linter.unusedVariables false
theorem decl_len {xa xb : List Int} {l : List St} (h : progB xa xb l = true) : xa.length ≤ 12 ∧ xb.length ≤ 2 := by
  simp only [progB, declB, Bool.and_eq_true, decide_eq_true_eq] at h
  exact ⟨h.1.1.1.1.1.2, h.1.1.1.1.2⟩
theorem blk {xa xb : List Int} {l : List St} (h : progB xa xb l = true) : blB xa.length xb.length l 5 = true ∧ RuP.bnd 5 (stsN l) ≤ 1000000 := by
  simp only [progB, Bool.and_eq_true, decide_eq_true_eq] at h
  refine ⟨h.1.2, Nat.le_trans (RuP.bnd_mono 5 (m := 60) ?_) (by decide)⟩
  rw [← stsZ_N _ _ _ _ h.1.2]; exact h.2
/-- what is known of the answer -/
def GotR (w : World) (e : Ending) (w' : World) : Prop := ∃ (aU : Option Addr) (nU dU : Nat) (aV : Option Addr) (nV dV : Nat) (ev : Value) (lE : List Ev) (ok : Bool), e = .returned (.tuple #[.agg #[.slice aU nU dU, .slice aV nV dV], ev, .bool ok]) ∧ New w w' ∧ OwnF 2 encE w' w.heap.size 54 ev lE ∧ lE.length ≤ 1000000
set_option maxHeartbeats 8000000 in
theorem specR {w : World} {lo hi lo' hi' : Nat} {ta tb tc va vb : Value} {xa xb ya : List Int} {yb : List (List Int)} {l : List St} (sa : IntsR w lo hi ta xa) (sb : IntsR w lo hi tb xb) (s : StsR w lo hi tc l) (hO : MemO w lo' hi' va vb ya yb) (h1 : hi ≤ w.heap.size) (h2 : hi' ≤ w.heap.size) (m1 : ya.length ≤ 1000000) (m2 : yb.length ≤ 1000000) (hm : St.sizes l ≤ 1048576) :
    Calls Tryd.prog 58 #[.agg #[ta, tb, tc], .agg #[va, vb]] w (GotR w) := by
  obtain ⟨a1, d1, rfl, _⟩ := sa.len
  obtain ⟨a2, d2, rfl, _⟩ := sb.len
  obtain ⟨a3, d3, rfl, _⟩ := s.len
  obtain ⟨⟨a4, d4, rfl⟩, a5, d5, rfl⟩ := hO.lens
  have N0 : New w (((w.alloc (.cells #[.slice a1 xa.length d1, .slice a2 xb.length d2, .slice a3 l.length d3] 41)).alloc (.cells #[.slice a4 ya.length d4, .slice a5 yb.length d5] 101)).alloc (.cells #[.slice none 0 0, .slice none 0 0] 101)) := (((Kp.refl _ _).alloc _).alloc _).alloc _
  have bP_0 : (((w.alloc (.cells #[.slice a1 xa.length d1, .slice a2 xb.length d2, .slice a3 l.length d3] 41)).alloc (.cells #[.slice a4 ya.length d4, .slice a5 yb.length d5] 101)).alloc (.cells #[.slice none 0 0, .slice none 0 0] 101)).heap[w.heap.size]? = some (.cells #[.slice a1 xa.length d1, .slice a2 xb.length d2, .slice a3 l.length d3] 41) := heap_old (heap_old (alloc_heap _ _))
  have bM_0 : (((w.alloc (.cells #[.slice a1 xa.length d1, .slice a2 xb.length d2, .slice a3 l.length d3] 41)).alloc (.cells #[.slice a4 ya.length d4, .slice a5 yb.length d5] 101)).alloc (.cells #[.slice none 0 0, .slice none 0 0] 101)).heap[w.heap.size + 1]? = some (.cells #[.slice a4 ya.length d4, .slice a5 yb.length d5] 101) := heap_old (heap_at (by simp))
  have bR_0 : (((w.alloc (.cells #[.slice a1 xa.length d1, .slice a2 xb.length d2, .slice a3 l.length d3] 41)).alloc (.cells #[.slice a4 ya.length d4, .slice a5 yb.length d5] 101)).alloc (.cells #[.slice none 0 0, .slice none 0 0] 101)).heap[w.heap.size + 1 + 1]? = some (.cells #[.slice none 0 0, .slice none 0 0] 101) := heap_at (by simp)
  have z0 : w.heap.size + 1 + 1 < (((w.alloc (.cells #[.slice a1 xa.length d1, .slice a2 xb.length d2, .slice a3 l.length d3] 41)).alloc (.cells #[.slice a4 ya.length d4, .slice a5 yb.length d5] 101)).alloc (.cells #[.slice none 0 0, .slice none 0 0] 101)).heap.size := by simp
  have hsa := Lib.hid (sa.new h1 N0)
  have hsb := Lib.hid (sb.new h1 N0)
  have hs := Lib.hid (s.new h1 N0)
  have hOh := Lib.hid (hO.new h2 N0)
  clear sa sb s hO
  go_enter Tryd.func58, Tryd.ntmps58
  go_upto_region 1 with fail
  generalize (((w.alloc (.cells #[.slice a1 xa.length d1, .slice a2 xb.length d2, .slice a3 l.length d3] 41)).alloc (.cells #[.slice a4 ya.length d4, .slice a5 yb.length d5] 101)).alloc (.cells #[.slice none 0 0, .slice none 0 0] 101)) = w0 at *
  obtain ⟨cP0, cP1, cP2⟩ := cells3 bP_0
  obtain ⟨cM0, cM1⟩ := cells2 bM_0
  go_wp2_with fail
  refine (PgmV.specM hsa.out hsb.out hs.out (by omega) hOh.out.reads.1 hOh.out.reads.2 (by omega) hm).mono ?_
  rintro e w1 ⟨rfl, hn1⟩
  have z1 := hn1.size
  have bP_1 := heap_new hn1 bP_0
  have bM_1 := heap_new hn1 bM_0
  have bR_1 := heap_new hn1 bR_0
  have N1 := N0.trans hn1
  have hs1 := Lib.hid (hs.out.new (by omega) hn1)
  have hO1 := Lib.hid (hOh.out.new (by omega) hn1)
  clear cP0 cP1 cP2 cM0 cM1 bP_0 bM_0 bR_0 hsa hsb hs hOh hn1 N0
  obtain ⟨cP0, cP1, cP2⟩ := cells3 bP_1
  obtain ⟨cM0, cM1⟩ := cells2 bM_1
  obtain ⟨cR0, cR1⟩ := cells2 bR_1
  have cRf := frozen_of_heap bR_1
  have cRl := heap_lt bR_1
  cases ht : (progB xa xb l && fitB xa.length xb.length ya yb)
  · clear ht hO1 hs1
    have hkz := setMany_kp (w.heap.size + 1 + 1) [.slice none 0 0, .slice none 0 0] w1 0
    have zs := setMany_size (w.heap.size + 1 + 1) [.slice none 0 0, .slice none 0 0] w1 0
    have hR := setMany_row [.slice none 0 0, .slice none 0 0] bR_1 rfl
    have hE0 := OwnF.empty (α := Ev) (n := 2) (enc := encE) (setMany w1 (w.heap.size + 1 + 1) 0 [.slice none 0 0, .slice none 0 0]) 54 (base := w.heap.size) (by rw [zs]; exact N1.size)
    rw [zs] at hE0
    have N2 := New.one N1 hkz (by omega)
    have kE : New (setMany w1 (w.heap.size + 1 + 1) 0 [.slice none 0 0, .slice none 0 0]) ((setMany w1 (w.heap.size + 1 + 1) 0 [.slice none 0 0, .slice none 0 0]).alloc (.cells #[] 54)) := (Kp.refl _ _).alloc _
    have hR2 := Lib.hid (heap_new kE hR)
    have N3 := Lib.hid (N2.trans kE)
    have hEh := Lib.hid hE0
    clear hkz zs hR hE0 kE N2
    go_wp2
    exact bodyPost_ret (results_cell_tmp2 rfl _ _ _ _ _ _ _ _ _ rfl rfl rfl hR2.out Tryd.underlying101 rfl (by kernel_rfl)) rfl ⟨_, _, _, _, _, _, _, _, _, rfl, N3.out, hEh.out, by simp⟩
  · rw [Bool.and_eq_true] at ht
    obtain ⟨hp, hf⟩ := ht
    have hFh := Lib.hid (EvP.fit hf)
    have hdl := decl_len hp
    have hd1 := hdl.1
    have hd2 := hdl.2
    have hbl := Lib.hid (blk hp).1
    have hbn := Lib.hid (blk hp).2
    clear hp hf hdl
    go_wp2_with fail
    refine (CopyM.l3Copy w1 lo' hi' _ _ ya yb hO1.out.reads.1 hO1.out.reads.2 (by omega) (by omega) (by omega) (fun y hy => by obtain ⟨i, hi, rfl⟩ := List.getElem_of_mem hy; have := hFh.out.ar i hi; omega)).mono ?_
    rintro e w2 ⟨ua, ub, rfl, hn2, hM2⟩
    have z2 := hn2.size
    have N2 := N1.trans hn2
    obtain ⟨⟨aU, dU, hU⟩, aV, dV, hV⟩ := hM2.lens
    rw [hFh.out.vl] at hU
    rw [hFh.out.al] at hV
    subst hU hV
    have bP_2 := heap_new hn2 bP_1
    have bR_2 := heap_new hn2 bR_1
    have hs2 := Lib.hid (hs1.out.new (by omega) hn2)
    clear cP0 cP1 cP2 cM0 cM1 cR0 cR1 cRf cRl bP_1 bM_1 bR_1 hn2 N1 hs1 hO1
    have hn3 : New w2 (w2.alloc (.cells #[.slice aU xa.length dU, .slice aV xb.length dV] 101)) := (Kp.refl _ _).alloc _
    have bO_3 := alloc_heap w2 (.cells #[.slice aU xa.length dU, .slice aV xb.length dV] 101)
    have y3 : w2.heap.size < (w2.alloc (.cells #[.slice aU xa.length dU, .slice aV xb.length dV] 101)).heap.size := by simp
    have bP_3 := heap_new hn3 bP_2
    have bR_3 := heap_new hn3 bR_2
    have hs3 := Lib.hid (hs2.out.new (by omega) hn3)
    have N3 := N2.trans hn3
    have hM3 := Lib.hid (hM2.new (Nat.le_refl _) hn3)
    clear hM2 hn3 bP_2 bR_2 hs2 N2
    go_upto_region 4 with fail
    obtain ⟨bO, hbO⟩ : ∃ q, w2.heap.size = q := ⟨_, rfl⟩
    rw [hbO] at bO_3 y3 hM3 ⊢
    have hbO1 : w2.heap.size ≤ bO := Nat.le_of_eq hbO
    have hbO2 : bO ≤ w2.heap.size := Nat.le_of_eq hbO.symm
    clear hbO
    generalize (w2.alloc (.cells #[.slice aU xa.length dU, .slice aV xb.length dV] 101)) = w3 at *
    obtain ⟨cP0, cP1, cP2⟩ := cells3 bP_3
    obtain ⟨cO0, cO1⟩ := cells2 bO_3
    obtain ⟨cR0, cR1⟩ := cells2 bR_3
    have cRf := frozen_of_heap bR_3
    have cRl := heap_lt bR_3
    go_wp2_with fail
    have hQ0 := Lib.hid (show RuP.RunQ w3 bO w1.heap.size bO xa.length xb.length (.slice aU xa.length dU) (.slice aV xb.length dV) (.slice none 0 0) 0 (.slice none 0 0) w3 from ⟨ya, yb, [], Kp.refl _ _, hM3.out, hFh.out, OwnF.nil _ _ _, Grew.refl _ _, Nat.le_refl 0⟩)
    refine (RuS.l3Run lo hi w1.heap.size bO bO xa.length xb.length (by omega) (by omega) (by omega) (by omega) (Nat.le_refl _) aU aV dU dV _ w3 5 _ _ l 0 (Nat.lt_succ_self _) hbl.out (by omega) hQ0.out hs3.out (by have := hbn.out; omega)).mono ?_
    rintro e w4 ⟨ev, rfl, ya2, yb2, lE, K4, -, -, E4, -, hl4⟩
    have z4 := K4.size
    have hoff : ∀ c, c < w1.heap.size ∨ bO ≤ c → ¬ ((w1.heap.size ≤ c ∧ c < bO) ∨ (Value.slice none 0 0).ownBlock = some c) := fun c hc q => by rcases q with q | q; (· omega); (· simp [Value.ownBlock] at q)
    have bO_4 := (K4.block bO y3 (hoff _ (by omega))).trans bO_3
    have bP_4 := (K4.block _ (heap_lt bP_3) (hoff _ (by omega))).trans bP_3
    have bR_4 := (K4.block _ (heap_lt bR_3) (hoff _ (by omega))).trans bR_3
    have N4 := Lib.hid (New.on N3 K4 (fun c hc => by rcases hc with hc | hc; (· omega); (· simp [Value.ownBlock] at hc)))
    have E4h := Lib.hid (E4.up (base' := w.heap.size) fun b hb => by have := (E4.lt b hb).1; omega)
    have hl4h := Lib.hid (show lE.length ≤ 1000000 by have := hbn.out; omega)
    clear cP0 cP1 cP2 cO0 cO1 cR0 cR1 cRf cRl bO_3 bP_3 bR_3 K4 E4 hoff hl4 N3 hM3 hQ0 hs3
    obtain ⟨cP0, cP1, cP2⟩ := cells3 bP_4
    obtain ⟨cO0, cO1⟩ := cells2 bO_4
    obtain ⟨cR0, cR1⟩ := cells2 bR_4
    have cRf := frozen_of_heap bR_4
    have cRl := heap_lt bR_4
    go_wp2
    have hkz := setMany_kp (w.heap.size + 1 + 1) [.slice aU xa.length dU, .slice aV xb.length dV] w4 0
    have hR := setMany_row [.slice aU xa.length dU, .slice aV xb.length dV] bR_4 rfl
    have hne := OwnF.box E4h.out bR_4 (by decide)
    exact bodyPost_ret (results_cell_tmp2 rfl _ _ _ _ _ _ _ _ _ rfl rfl rfl hR Tryd.underlying101 rfl (by kernel_rfl)) rfl ⟨_, _, _, _, _, _, _, lE, _, rfl, New.one N4.out hkz (by omega), E4h.out.kp hkz (fun c e1 e2 => by subst e2; exact hne e1), hl4h.out⟩
end Go.Proofs.YtckikiaockkmbaaDoor.RuM
