/- Draws of programs, sometimes changed: DrawProgramValid and its kin. No conditions. -/
import Derived.Test.YtckikiaockkmbaaUMut
import Derived.Test.YtckikiaockkmbaaUDrawG
import Derived.Test.YtckikiaockkmbaaUP1
namespace Go.Proofs.Ytckikiaockkmbaa.DrawY
open Go.RowKit Kit Draw DrawX MarkC
set_option linter.unusedVariables false
/-- a program -/
def GotV (w : World) (e : Ending) (w' : World) : Prop := ∃ (va vb vc : Value) (ya yb : List Int) (m : List St), e = .returned (.agg #[va, vb, vc]) ∧ New w w' ∧ IntsR w' w.heap.size w'.heap.size va ya ∧ IntsR w' w.heap.size w'.heap.size vb yb ∧ StsR w' w.heap.size w'.heap.size vc m ∧ St.sizes m ≤ 608400
set_option maxHeartbeats 16000000 in
set_option maxRecDepth 100000 in
theorem drawValid (w : World) (a : Option Addr) (len cap : Nat) (h : Src w a len cap) : Calls Try.prog 60 #[.slice a len cap] w (GotV w) := by
  go_enter Try.func60, Try.ntmps60
  go_upto_region 1 with fail
  have N0 : New w (w.alloc (.cells #[.slice none 0 0, .slice none 0 0, .slice none 0 0] 37)) := (Kp.refl _ _).alloc _
  have bR_0 : (w.alloc (.cells #[.slice none 0 0, .slice none 0 0, .slice none 0 0] 37)).heap[w.heap.size]? = some (.cells #[.slice none 0 0, .slice none 0 0, .slice none 0 0] 37) := alloc_heap _ _
  have z0 : w.heap.size < (w.alloc (.cells #[.slice none 0 0, .slice none 0 0, .slice none 0 0] 37)).heap.size := by simp
  generalize (w.alloc (.cells #[.slice none 0 0, .slice none 0 0, .slice none 0 0] 37)) = w0 at *
  have s0 := h.keep N0
  go_wp2_with fail
  refine (Draw.l17Open w0 _ _ _ s0.1 s0.2.1 s0.2.2).mono ?_
  rintro e w1 ⟨rfl, hn1, r1⟩
  have z1 := hn1.size
  have bR_1 := heap_new hn1 bR_0
  have K1 := N0.trans hn1
  have hwbr0 : w.heap.size + 1 ≤ w0.heap.size := by omega
  generalize hbr : w0.heap.size = br at *
  have hwbr : w.heap.size ≤ br := by omega
  clear hbr N0 hn1 bR_0 z0 s0 h
  go_wp2_with fail
  refine (DrawG.l2Program w1 br 0 r1 (by omega)).mono ?_
  rintro e w2 ⟨a1, a2, a3, d1, d2, d3, xa, xb, l, q, rfl, hn2, r2, hq, hA, hB, hC, hxa, hxb, hx, -, -⟩
  have hbl : br < w1.heap.size := r1.lt
  have hll := St.length_sizes l
  have z2 := hn2.size
  have bR_2 := hn2.bo bR_1
  have K2 : New w w2 := New.one K1 hn2 hwbr
  clear bR_1 K1 r1 hn2
  have oC_2 := Lib.hid (show _ ∧ _ ∧ _ from ⟨hA, hB, hC⟩)
  clear hA hB hC
  obtain ⟨cR0, cR1, cR2⟩ := cells3 bR_2
  have fR := frozen_of_heap bR_2
  have lR := heap_lt bR_2
  go_wp2_with fail
  clear cR0 cR1 cR2 fR lR
  refine (Mut.l2Mutate w2 br (q) w.heap.size w2.heap.size a1 a2 a3 d1 d2 d3 xa xb l r2 (oC_2.out.1.mono (by omega) (by omega)) (oC_2.out.2.1.mono (by omega) (by omega)) (oC_2.out.2.2.mono (by omega) (by omega)) (Nat.le_refl _) (by omega) (by omega) (by omega) (by omega) (by omega)).mono ?_
  rintro e w3 ⟨va, vb, vc, ya, yb, m, qU, rfl, hn3, r3, hqU, hA, hB, hC, hl1, hl2, hl3⟩
  have z3 := hn3.size
  have bR_3 := hn3.bo bR_2
  have oC_3 := Lib.hid ((⟨oC_2.out.1.kp hn3 (by omega) (fun b e => by omega), oC_2.out.2.1.kp hn3 (by omega) (fun b e => by omega), oC_2.out.2.2.kp hn3 (by omega) (fun b e => by omega)⟩ : _ ∧ _ ∧ _))
  have K3 : New w w3 := New.one K2 hn3 hwbr
  clear bR_2 oC_2 K2 r2 hn3
  obtain ⟨e1, f1, rfl, _⟩ := hA.len
  obtain ⟨e2, f2, rfl, _⟩ := hB.len
  obtain ⟨e3, f3, rfl, _⟩ := hC.len
  have oD_3 := Lib.hid (show _ ∧ _ ∧ _ from ⟨hA, hB, hC⟩)
  clear hA hB hC
  obtain ⟨cR0, cR1, cR2⟩ := cells3 bR_3
  have fR := frozen_of_heap bR_3
  have lR := heap_lt bR_3
  go_wp2
  have hkz := setMany_kp (w.heap.size) [.slice e1 ya.length f1, .slice e2 yb.length f2, .slice e3 m.length f3] w3 0
  have zs := setMany_size (w.heap.size) [.slice e1 ya.length f1, .slice e2 yb.length f2, .slice e3 m.length f3] w3 0
  have hR := setMany_row [.slice e1 ya.length f1, .slice e2 yb.length f2, .slice e3 m.length f3] bR_3 rfl
  exact bodyPost_ret (results_cell_row rfl _ _ _ _ _ _ _ rfl hR Try.underlying37 rfl (by kernel_rfl)) rfl ⟨_, _, _, ya, yb, m, rfl, New.one K3 hkz (by omega), (oD_3.out.1.kp hkz (by omega) (fun b e => .inl (by omega))).mono (lo' := w.heap.size) (hi' := (setMany w3 (w.heap.size) 0 [.slice e1 ya.length f1, .slice e2 yb.length f2, .slice e3 m.length f3]).heap.size) (by omega) (by omega), (oD_3.out.2.1.kp hkz (by omega) (fun b e => .inl (by omega))).mono (lo' := w.heap.size) (hi' := (setMany w3 (w.heap.size) 0 [.slice e1 ya.length f1, .slice e2 yb.length f2, .slice e3 m.length f3]).heap.size) (by omega) (by omega), (oD_3.out.2.2.kp hkz (by omega) (fun b e => .inl (by omega))).mono (lo' := w.heap.size) (hi' := (setMany w3 (w.heap.size) 0 [.slice e1 ya.length f1, .slice e2 yb.length f2, .slice e3 m.length f3]).heap.size) (by omega) (by omega), by omega⟩
set_option maxHeartbeats 2000000 in
theorem drawCompile (w : World) (a : Option Addr) (len cap : Nat) (h : Src w a len cap) : Calls Try.prog 51 #[.slice a len cap] w (GotV w) := by
  have N0 : New w (w.alloc (.cells #[.slice none 0 0, .slice none 0 0, .slice none 0 0] 37)) := (Kp.refl _ _).alloc _
  have bR_0 := alloc_heap w (.cells #[.slice none 0 0, .slice none 0 0, .slice none 0 0] 37)
  have z0 : w.heap.size < (w.alloc (.cells #[.slice none 0 0, .slice none 0 0, .slice none 0 0] 37)).heap.size := lt_alloc _ _
  have hs := Lib.hid (h.keep N0)
  clear h
  go_enter Try.func51, Try.ntmps51
  go_upto_region 1 with fail
  generalize w.alloc (.cells #[.slice none 0 0, .slice none 0 0, .slice none 0 0] 37) = w0 at *
  go_wp2_with fail
  refine (drawValid w0 _ _ _ hs.out).mono ?_
  rintro e w1 ⟨va, vb, vc, ya, yb, m, rfl, hn1, hA, hB, hC, hl⟩
  obtain ⟨e1, f1, rfl, _⟩ := hA.len
  obtain ⟨e2, f2, rfl, _⟩ := hB.len
  obtain ⟨e3, f3, rfl, _⟩ := hC.len
  have z1 := hn1.size
  have bR := heap_new hn1 bR_0
  have oD := Lib.hid (show _ ∧ _ ∧ _ from ⟨hA, hB, hC⟩)
  have N1 := N0.trans hn1
  have rf := frozen_of_heap bR
  have rl := heap_lt bR
  obtain ⟨c0, c1, c2⟩ := cells3 bR
  clear hA hB hC N0 hn1 bR_0 hs
  go_wp2
  have hkz := setMany_kp (w.heap.size) [.slice e1 ya.length f1, .slice e2 yb.length f2, .slice e3 m.length f3] w1 0
  have zs := setMany_size (w.heap.size) [.slice e1 ya.length f1, .slice e2 yb.length f2, .slice e3 m.length f3] w1 0
  have hR := setMany_row [.slice e1 ya.length f1, .slice e2 yb.length f2, .slice e3 m.length f3] bR rfl
  exact bodyPost_ret (results_cell_row rfl _ _ _ _ _ _ _ rfl hR Try.underlying37 rfl (by kernel_rfl)) rfl ⟨_, _, _, ya, yb, m, rfl, New.one N1 hkz (by omega), (oD.out.1.kp hkz (by omega) (fun b e => .inl (by omega))).mono (lo' := w.heap.size) (hi' := (setMany w1 (w.heap.size) 0 [.slice e1 ya.length f1, .slice e2 yb.length f2, .slice e3 m.length f3]).heap.size) (by omega) (by omega), (oD.out.2.1.kp hkz (by omega) (fun b e => .inl (by omega))).mono (lo' := w.heap.size) (hi' := (setMany w1 (w.heap.size) 0 [.slice e1 ya.length f1, .slice e2 yb.length f2, .slice e3 m.length f3]).heap.size) (by omega) (by omega), (oD.out.2.2.kp hkz (by omega) (fun b e => .inl (by omega))).mono (lo' := w.heap.size) (hi' := (setMany w1 (w.heap.size) 0 [.slice e1 ya.length f1, .slice e2 yb.length f2, .slice e3 m.length f3]).heap.size) (by omega) (by omega), hl⟩
end Go.Proofs.Ytckikiaockkmbaa.DrawY
