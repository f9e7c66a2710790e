/- Draws of codes. Condition: fewer than 2^40 picks so far. -/
import Derived.Test.YtbicpkmlionldaaVDrawC
import Derived.Test.YtbicpkmlionldaaVP5
import Derived.Test.YtbicpkmlionldaaVP1
namespace Go.Proofs.Ytbicpkmlionldaa.DrawD
open Go.RowKit Kit Draw DrawX MarkC
set_option linter.unusedVariables false
theorem infoIns : (Try.prog.info? 42).map (fun i => (i.zero, i.size, i.bytes)) = some (some (.agg #[.int .i64 0, .int .i64 0, .int .i64 0, .int .i64 0, .int .i64 0]), 5, 40) := by kernel_rfl
theorem newN (w : World) (y : Ins) (T : TypeId) : ∀ t, t < 5 → (w.alloc (.cells #[.int .i64 y.op, .int .i64 y.a, .int .i64 y.b, .int .i64 y.c, .int .i64 y.d] T)).cell? ⟨w.heap.size, t, none⟩ = some (encN y t) := by
  intro t ht
  match t, ht with
  | 0, _ => exact World.cell?_alloc_new _ _ _ _
  | 1, _ => exact World.cell?_alloc_new _ _ _ _
  | 2, _ => exact World.cell?_alloc_new _ _ _ _
  | 3, _ => exact World.cell?_alloc_new _ _ _ _
  | 4, _ => exact World.cell?_alloc_new _ _ _ _
theorem own_cellsN {w : World} {base n d : Nat} {a : Option Addr} {T : TypeId} {xs : List Ins} (h : OwnF 5 encN w base T (.slice a n d) xs) (h0 : 0 < xs.length) :
    n = xs.length ∧ ∃ b, a = some ⟨b, 0, none⟩ ∧ (∀ i (h : i < xs.length) t, t < 5 → w.cell? ⟨b, i * 5 + t, none⟩ = some (encN xs[i] t)) ∧ ∀ i, w.frozen? ⟨b, i, none⟩ = false := by
  rcases h.form with ⟨e, _⟩ | ⟨b, cap, cs, e, hb, _, _, hh, hn, hc⟩
  · subst e; exact absurd h0 (Nat.lt_irrefl _)
  · cases e
    exact ⟨rfl, b, rfl, fun i hi t ht => (cell_of_heap hh _).trans (hc i hi t ht), fun i => frozen_of_heap hh i⟩
/-- one cell of one element is changed -/
theorem own_setT {w : World} {base b cap : Nat} {T : TypeId} {xs : List Ins} (h : OwnF 5 encN w base T (.slice (some ⟨b, 0, none⟩) xs.length cap) xs) (j : Nat) (hj : j < xs.length) (t : Nat) (ht : t < 5) (y : Ins) (u : Value) (hu : ∀ q, q < 5 → encN y q = if q = t then u else encN xs[j] q) :
    OwnF 5 encN (w.setCell ⟨b, j * 5 + t, none⟩ u) base T (.slice (some ⟨b, 0, none⟩) xs.length cap) (xs.set j y) := by
  rcases h.form with ⟨e, _⟩ | ⟨b', cap', cs, e, hb1, hb2, hb3, hh, hs, hc⟩
  · subst e; exact absurd hj (Nat.not_lt_zero _)
  · cases e
    have := OwnF.mk' (enc := encN) (n := 5) (xs := xs.set j y) (base := base) (setCell_heap (o := j * 5 + t) hh u) hb1 (by simpa using hb2) hb3 (by simpa using hs) (fun i hi q hq => by
      have hi2 : i < xs.length := by simpa using hi
      rw [Array.getElem?_setIfInBounds]
      by_cases e : j = i
      · subst e
        rw [List.getElem_set_self, hu q hq]
        by_cases e2 : q = t
        · subst e2
          have hlt : j * 5 + q < cs.size := by omega
          simp [hlt]
        · rw [if_neg (by omega), if_neg e2]; exact hc j hj q hq
      · rw [List.getElem_set_ne e, if_neg (by omega)]; exact hc i hi2 q hq)
    rw [List.length_set] at this
    exact this
theorem own_set5 {w : World} {base b cap : Nat} {T : TypeId} {xs : List Ins} (h : OwnF 5 encN w base T (.slice (some ⟨b, 0, none⟩) xs.length cap) xs) (j : Nat) (hj : j < xs.length) (y : Ins) :
    OwnF 5 encN (((((w.setCell ⟨b, j * 5 + 0, none⟩ (.int .i64 y.op)).setCell ⟨b, j * 5 + 1, none⟩ (.int .i64 y.a)).setCell ⟨b, j * 5 + 2, none⟩ (.int .i64 y.b)).setCell ⟨b, j * 5 + 3, none⟩ (.int .i64 y.c)).setCell ⟨b, j * 5 + 4, none⟩ (.int .i64 y.d)) base T (.slice (some ⟨b, 0, none⟩) xs.length cap) (xs.set j y) := by
  have go : ∀ (w : World) (zs : List Ins), zs.length = xs.length → OwnF 5 encN w base T (.slice (some ⟨b, 0, none⟩) xs.length cap) zs → ∀ (t : Nat) (ht : t < 5) (z z' : Ins) (u : Value), zs[j]? = some z → (∀ q, q < 5 → encN z' q = if q = t then u else encN z q) → OwnF 5 encN (w.setCell ⟨b, j * 5 + t, none⟩ u) base T (.slice (some ⟨b, 0, none⟩) xs.length cap) (zs.set j z') := by
    intro w zs hl hz t ht z z' u hzj hu
    have hjz : j < zs.length := by omega
    have e : zs[j] = z := by rw [List.getElem?_eq_getElem hjz] at hzj; exact Option.some.inj hzj
    rw [← hl] at hz ⊢
    exact own_setT hz j hjz t ht z' u (by rw [e]; exact hu)
  obtain ⟨z, hz⟩ : ∃ z, xs[j] = z := ⟨_, rfl⟩
  have g0 := go _ xs rfl h 0 (by decide) z ⟨y.op, z.a, z.b, z.c, z.d⟩ (.int .i64 y.op) (by rw [List.getElem?_eq_getElem hj, hz]) (fun q hq => by match q, hq with | 0, _ => rfl | 1, _ => rfl | 2, _ => rfl | 3, _ => rfl | 4, _ => rfl)
  have g1 := go _ _ (by simp) g0 1 (by decide) ⟨y.op, z.a, z.b, z.c, z.d⟩ ⟨y.op, y.a, z.b, z.c, z.d⟩ (.int .i64 y.a) (by simp [hj]) (fun q hq => by match q, hq with | 0, _ => rfl | 1, _ => rfl | 2, _ => rfl | 3, _ => rfl | 4, _ => rfl)
  have g2 := go _ _ (by simp) g1 2 (by decide) ⟨y.op, y.a, z.b, z.c, z.d⟩ ⟨y.op, y.a, y.b, z.c, z.d⟩ (.int .i64 y.b) (by simp [hj]) (fun q hq => by match q, hq with | 0, _ => rfl | 1, _ => rfl | 2, _ => rfl | 3, _ => rfl | 4, _ => rfl)
  have g3 := go _ _ (by simp) g2 3 (by decide) ⟨y.op, y.a, y.b, z.c, z.d⟩ ⟨y.op, y.a, y.b, y.c, z.d⟩ (.int .i64 y.c) (by simp [hj]) (fun q hq => by match q, hq with | 0, _ => rfl | 1, _ => rfl | 2, _ => rfl | 3, _ => rfl | 4, _ => rfl)
  have g4 := go _ _ (by simp) g3 4 (by decide) ⟨y.op, y.a, y.b, y.c, z.d⟩ y (.int .i64 y.d) (by simp [hj]) (fun q hq => by match q, hq with | 0, _ => rfl | 1, _ => rfl | 2, _ => rfl | 3, _ => rfl | 4, _ => rfl)
  simpa [List.set_set] using g4
/-- code drawn by at most c picks -/
def GotC (w : World) (br p c : Nat) (e : Ending) (w' : World) : Prop := ∃ (a1 a2 a3 : Option Addr) (d1 d2 d3 : Nat) (xa xb : List Int) (x : List Ins) (q : Nat), e = .returned (.agg #[.slice a1 xa.length d1, .slice a2 xb.length d2, .slice a3 x.length d3]) ∧ One br w w' ∧ Rd w' br q ∧ q ≤ p + c ∧
  IntsR w' w.heap.size w'.heap.size (.slice a1 xa.length d1) xa ∧ IntsR w' w.heap.size w'.heap.size (.slice a2 xb.length d2) xb ∧ InssR w' w.heap.size w'.heap.size (.slice a3 x.length d3) x ∧ xa.length ≤ 5 ∧ xb.length ≤ 2 ∧ x.length ≤ 12
def LC (w : World) (br p bo lo : Nat) (a1 : Option Addr) (d1 : Nat) (a2 : Option Addr) (d2 : Nat) (xa xb : List Int) (m : Nat) (wr : World) : Prop := ∃ (xs : List Ins) (a : Option Addr) (d q : Nat), xs.length = m ∧ One br w wr ∧ Rd wr br q ∧ q ≤ p + 3100001 + 5 * m ∧ wr.heap[w.heap.size]? = some (.cells #[.slice none 0 0, .slice none 0 0, .slice none 0 0] 26 (0, 0)) ∧ wr.heap[bo]? = some (.cells #[.slice a1 xa.length d1, .slice a2 xb.length d2, .slice a m d] 26 (0, 0)) ∧
  IntsR wr lo bo (.slice a1 xa.length d1) xa ∧ IntsR wr lo bo (.slice a2 xb.length d2) xb ∧ OwnF 5 encN wr (bo + 1) 42 (.slice a m d) xs
set_option maxHeartbeats 16000000 in
set_option maxRecDepth 100000 in
theorem l6Code (w : World) (br p : Nat) (h : Rd w br p) (hp : p + 3200100 < 1099511627776) :
    Calls Try.prog 47 #[.pointer (some ⟨br, 0, none⟩)] w (GotC w br p 3100100) := by
  have hbl := h.lt
  go_enter Try.func47, Try.ntmps47
  go_upto_region 1 with fail
  have N0 : New w (w.alloc (.cells #[.slice none 0 0, .slice none 0 0, .slice none 0 0] 26)) := (Kp.refl _ _).alloc _
  have bR_0 : (w.alloc (.cells #[.slice none 0 0, .slice none 0 0, .slice none 0 0] 26)).heap[w.heap.size]? = some (.cells #[.slice none 0 0, .slice none 0 0, .slice none 0 0] 26) := alloc_heap _ _
  have z0 : w.heap.size < (w.alloc (.cells #[.slice none 0 0, .slice none 0 0, .slice none 0 0] 26)).heap.size := by simp
  generalize (w.alloc (.cells #[.slice none 0 0, .slice none 0 0, .slice none 0 0] 26)) = w0 at *
  have r0 := h.nw N0
  have K0 : One br w w0 := N0.mono (fun _ _ f => f.elim)
  clear N0 h
  go_wp2_with fail
  refine (DrawG.l2Program w0 br p r0 (by omega)).mono ?_
  rintro e w1 ⟨a1, a2, a3, d1, d2, d3, xa, xb, pl, q, rfl, hn1, r1, hq, hA, hB, hC, hxa, hxb, hpl, _, _⟩
  have z1 := hn1.size
  have bR_1 := hn1.bo bR_0
  have K1 := K0.trans hn1
  clear bR_0 K0 r0 hn1
  have oA_1 := Lib.hid hA
  have oB_1 := Lib.hid hB
  clear hA hB hC
  have hn2 : New w1 ((w1.alloc (.cells #[.slice a1 xa.length d1, .slice a2 xb.length d2, .slice a3 pl.length d3] 49)).alloc (.cells #[.slice a1 xa.length d1, .slice a2 xb.length d2, .slice none 0 0] 26)) := ((Kp.refl _ _).alloc _).alloc _
  have y2 : w1.heap.size + 1 < ((w1.alloc (.cells #[.slice a1 xa.length d1, .slice a2 xb.length d2, .slice a3 pl.length d3] 49)).alloc (.cells #[.slice a1 xa.length d1, .slice a2 xb.length d2, .slice none 0 0] 26)).heap.size := by simp
  have bE_2 : ((w1.alloc (.cells #[.slice a1 xa.length d1, .slice a2 xb.length d2, .slice a3 pl.length d3] 49)).alloc (.cells #[.slice a1 xa.length d1, .slice a2 xb.length d2, .slice none 0 0] 26)).heap[w1.heap.size + 1]? = some (.cells #[.slice a1 xa.length d1, .slice a2 xb.length d2, .slice none 0 0] 26) := heap_at (by simp)
  go_upto_region 3 with fail
  have hs1 : w0.heap.size ≤ w1.heap.size := z1
  generalize ((w1.alloc (.cells #[.slice a1 xa.length d1, .slice a2 xb.length d2, .slice a3 pl.length d3] 49)).alloc (.cells #[.slice a1 xa.length d1, .slice a2 xb.length d2, .slice none 0 0] 26)) = w2 at *
  have z2 := hn2.size
  have bR_2 := hn2.bk bR_1
  have oA_2 := Lib.hid (oA_1.out.new (by omega) hn2)
  have oB_2 := Lib.hid (oB_1.out.new (by omega) hn2)
  have K2 := K1.nw hn2
  have r2 := r1.nw hn2
  clear bR_1 oA_1 oB_1 K1 r1 hn2
  go_wp2_with fail
  have hNr := r2.lt
  refine (num _ br (q) _ 6 _ (fun x => 1 ≤ x ∧ x ≤ 12 ∧ (x = 6 ∨ x = 8 ∨ x = 4 ∨ x = 10 ∨ x = 1 ∨ x = 12)) (r2.keep (S := fun _ => False) ((Kp.refl _ _).alloc _) (fun _ f => f.elim)) (by omega) (by omega) (by omega) (by omega) ?_).mono ?_
  · intro i hi
    match i, hi with
    | 0, _ => exact ⟨_, by decide, World.cell?_alloc_new _ _ _ _⟩
    | 1, _ => exact ⟨_, by decide, World.cell?_alloc_new _ _ _ _⟩
    | 2, _ => exact ⟨_, by decide, World.cell?_alloc_new _ _ _ _⟩
    | 3, _ => exact ⟨_, by decide, World.cell?_alloc_new _ _ _ _⟩
    | 4, _ => exact ⟨_, by decide, World.cell?_alloc_new _ _ _ _⟩
    | 5, _ => exact ⟨_, by decide, World.cell?_alloc_new _ _ _ _⟩
  rintro e w3 ⟨n, rfl, ⟨n0, n1, hn⟩, k1, r3⟩
  have hn3 : One br w2 w3 := ((Kp.refl (fun k => k = br) w2).alloc _).trans k1
  clear k1 hNr
  have z3 := hn3.size
  have bR_3 := hn3.bo bR_2
  have bE_3 := hn3.bo bE_2
  have oA_3 := Lib.hid (oA_2.out.kp hn3 (by omega) (fun b e => by omega))
  have oB_3 := Lib.hid (oB_2.out.kp hn3 (by omega) (fun b e => by omega))
  have K3 := K2.trans hn3
  clear bR_2 bE_2 oA_2 oB_2 K2 r2 hn3
  obtain ⟨nn, rfl⟩ : ∃ nn : Nat, n = nn := ⟨n.toNat, by omega⟩
  have hnh := Lib.hid hn
  clear hn
  have hbo : w.heap.size < w1.heap.size + 1 := by omega
  have hbr : br < w1.heap.size + 1 := by have := r3.lt; omega
  have hlo : w0.heap.size ≤ w1.heap.size + 1 := by omega
  have hL : LC w br p (w1.heap.size + 1) w0.heap.size a1 d1 a2 d2 xa xb 0 w3 := ⟨[], none, 0, _, rfl, K3, r3, (by omega), bR_3, bE_3, oA_3.out.mono (Nat.le_refl _) (by omega), oB_3.out.mono (Nat.le_refl _) (by omega), OwnF.nil _ _ _⟩
  have hLh := Lib.hid hL
  clear hL K3 r3 bR_3 bE_3 oA_3 oB_3
  have hwn : IntKind.i64.wrap ((nn : Int) - 1) = (nn : Int) - 1 := IntWalk.i64_in _ (by omega)
  go_wp2_with fail
  have hw0 : w.heap.size < w0.heap.size := by omega
  generalize w1.heap.size + 1 = bo at *
  generalize w0.heap.size = lo at *
  clear z1 z2 z3 hs1 y2
  go_loopw [6] (fun i wr => ∃ j : Nat, (j : Int) ≤ (nn : Int) - 1 ∧ i = .int .i64 j ∧ LC w br p bo lo a1 d1 a2 d2 xa xb j wr) (fun i _ => nn - (intOf i).toNat)
  case atStart => exact ⟨0, by omega, rfl, hLh.out⟩
  case round =>
    obtain ⟨j, hj, rfl, xs, a, d, q, hl, K0, r0, hq, bR_0, bE_0, hA, hB, hO⟩ := hrel
    clear hLh
    have oA_0 := Lib.hid hA
    have oB_0 := Lib.hid hB
    have oX_0 := Lib.hid hO
    have hlX := Lib.hid hl
    have zw := K0.size
    have zE := heap_lt bE_0
    have hbr2 := r0.lt
    clear hl hA hB hO
    by_cases hlt : (j : Int) < (nn : Int) - 1
    · obtain ⟨cE0, cE1, cE2⟩ := cells3 bE_0
      have lE := heap_lt bE_0
      go_wp2_with fail
      refine wp_region_tail (k := 10) (S := fun w' => w'.cell? ⟨bo, 0, none⟩ = some (.slice a1 xa.length d1) ∧ w'.cell? ⟨bo, 1, none⟩ = some (.slice a2 xb.length d2) ∧ w'.cell? ⟨bo, 2, none⟩ = some (.slice a j d)) (by kernel_rfl) ?_ (fun hHeld => ?_)
      · exact ⟨cE0, cE1, cE2⟩
      clear cE0 cE1 cE2 lE
      have hn1 : New wr wr.drew := (Kp.refl _ _).drew
      generalize wr.drew = w1 at *
      have z1 := hn1.size
      have bR_1 := hn1.bk bR_0
      have bE_1 := hn1.bk bE_0
      have oA_1 := Lib.hid (oA_0.out.new (by omega) hn1)
      have oB_1 := Lib.hid (oB_0.out.new (by omega) hn1)
      have oX_1 := Lib.hid (oX_0.out.new hn1)
      have K1 := K0.nw hn1
      have r1 := r0.nw hn1
      clear bR_0 bE_0 oA_0 oB_0 oX_0 K0 r0 hn1
      obtain ⟨cE0, cE1, cE2⟩ := cells3 bE_1
      have lE := heap_lt bE_1
      refine AnyK.tw 0 rfl ?_
      try simp only [AP]
      refine AnyK.tk 1 rfl ?_
      try simp only [AP]
      refine AnyK.tw 2 rfl ?_
      try simp only [AP]
      refine AnyK.tk 3 rfl ?_
      try simp only [AP]
      refine AnyK.tw 4 rfl ?_
      try simp only [AP]
      refine AnyK.tw 5 rfl ?_
      try simp only [AP]
      refine AnyK.step (i := 6) (by kernel_rfl) rfl (fun K hK => ?_)
      go_simp
      refine (DrawC.l6Random w1 br (q) j nn a1 a2 a xa.length d1 xb.length d2 j d r1 (by omega) (by omega) (by omega) (by omega) (by omega)).mono ?_
      rintro e w2 ⟨y, q1, rfl, hn2, r2, hq1⟩
      have z2 := hn2.size
      have bR_2 := hn2.bo bR_1
      have bE_2 := hn2.bo bE_1
      have oA_2 := Lib.hid (oA_1.out.kp hn2 (by omega) (fun b e => by omega))
      have oB_2 := Lib.hid (oB_1.out.kp hn2 (by omega) (fun b e => by omega))
      have oX_2 := Lib.hid (oX_1.out.kb hn2 (fun b e => by omega))
      have K2 := K1.trans hn2
      clear cE0 cE1 cE2 lE
      clear bR_1 bE_1 oA_1 oB_1 oX_1 K1 r1 hn2
      obtain ⟨cE0, cE1, cE2⟩ := cells3 bE_2
      have lE := heap_lt bE_2
      refine hK.out _ _ ?_ (fun hHeld2 => ?_)
      · exact ⟨cE0, cE1, cE2⟩
      clear hK K hHeld
      have hHeld := hHeld2
      clear hHeld2
      try simp only [AP]
      refine AnyK.step (i := 7) (by kernel_rfl) rfl (fun K hK => ?_)
      go_simp
      obtain ⟨hn3, y3, bV_3⟩ := newb w2 (.cells #[.int .i64 y.op, .int .i64 y.a, .int .i64 y.b, .int .i64 y.c, .int .i64 y.d] 42)
      generalize w2.alloc (.cells #[.int .i64 y.op, .int .i64 y.a, .int .i64 y.b, .int .i64 y.c, .int .i64 y.d] 42) = w3 at *
      have z3 := hn3.size
      have bR_3 := hn3.bk bR_2
      have bE_3 := hn3.bk bE_2
      have oA_3 := Lib.hid (oA_2.out.new (by omega) hn3)
      have oB_3 := Lib.hid (oB_2.out.new (by omega) hn3)
      have oX_3 := Lib.hid (oX_2.out.new hn3)
      have K3 := K2.nw hn3
      have r3 := r2.nw hn3
      clear cE0 cE1 cE2 lE
      clear bR_2 bE_2 oA_2 oB_2 oX_2 K2 r2 hn3
      obtain ⟨cE0, cE1, cE2⟩ := cells3 bE_3
      have lE := heap_lt bE_3
      refine hK.out _ _ ?_ (fun hHeld2 => ?_)
      · exact ⟨cE0, cE1, cE2⟩
      clear hK K hHeld
      have hHeld := hHeld2
      clear hHeld2
      try simp only [AP]
      refine AnyK.step (i := 8) (by kernel_rfl) rfl (fun K hK => ?_)
      refine step_pushes rfl (.tmp 24) (.tmp 30) 24 rfl (bo + 1) 42 _ _ Try.underlying24 infoIns rfl (by decide) (.slice a j d) xs rfl oX_3.out _ [y] rfl (FlR.one (b := w2.heap.size) fun t ht => ?_) ?_ ?_ ?_ ?_ ?_
      · match t, ht with
        | 0, _ => exact cell_of_heap bV_3 0
        | 1, _ => exact cell_of_heap bV_3 1
        | 2, _ => exact cell_of_heap bV_3 2
        | 3, _ => exact cell_of_heap bV_3 3
        | 4, _ => exact cell_of_heap bV_3 4
      · intro y hy t
        rw [List.mem_singleton] at hy
        subst hy
        exact oneN _ _
      · have := hlX.out; simp; omega
      · have := hlX.out; simp; omega
      · omega
      intro v4 w4 hv4 hp4 ha4
      have hlt4 := oX_3.out.lt
      have hk4 : Kp (fun b => bo + 1 ≤ b) w3 w4 := hp4.mono fun b _ e => (hlt4 b e).1
      obtain ⟨a', d', e4, _⟩ := hv4.reads.len
      have hm4 : (xs ++ [y]).length = j + 1 := by simp [hlX.out]
      rw [hm4] at e4
      subst e4
      have oX_4 := Lib.hid hv4
      clear hlX
      have hlX := Lib.hid hm4
      clear hv4 hp4 ha4 hlt4 hm4 oX_3 bV_3
      have z4 := hk4.size
      have bR_4 := hk4.bo bR_3
      have bE_4 := hk4.bo bE_3
      have oA_4 := Lib.hid (oA_3.out.kp hk4 (by omega) (fun b e => by omega))
      have oB_4 := Lib.hid (oB_3.out.kp hk4 (by omega) (fun b e => by omega))
      have K4 : One br w w4 := one_new K3 hk4 (fun b e => by omega)
      have r4 := r3.keep hk4 (fun i e => by omega)
      clear cE0 cE1 cE2 lE
      clear bR_3 bE_3 oA_3 oB_3 K3 r3 hk4
      obtain ⟨cE0, cE1, cE2⟩ := cells3 bE_4
      have lE := heap_lt bE_4
      refine hK.out _ _ ?_ (fun hHeld2 => ?_)
      · exact ⟨cE0, cE1, cE2⟩
      clear hK K hHeld
      have hHeld := hHeld2
      clear hHeld2
      try simp only [AP]
      refine AnyK.tw 9 rfl ?_
      try simp only [AP]
      refine AnyK.last (by kernel_rfl) ?_
      simp only [List.drop_succ_cons, List.drop_zero]
      clear hHeld
      clear cE0 cE1 cE2 lE
      obtain ⟨cE0, cE1, cE2⟩ := cells3 bE_4
      have fE := frozen_of_heap bE_4
      have lE := heap_lt bE_4
      have kz : One bo w4 (w4.setCell ⟨bo, 2, none⟩ (.slice a' (j + 1) d')) := (Kp.refl (fun k => k = bo) _).setCell (.inl rfl) _
      have zz := kz.size
      have hL : LC w br p bo lo a1 d1 a2 d2 xa xb (j + 1) (w4.setCell ⟨bo, 2, none⟩ (.slice a' (j + 1) d')) := ⟨xs ++ [y], a', d', q1, hlX.out, one_on K4 kz (by omega), r4.keep kz (fun b e => by omega), by omega, heap_set bR_4 (by omega) _, setCell_heap bE_4 _, oA_4.out.kp kz (by omega) (fun b e => by omega), oB_4.out.kp kz (by omega) (fun b e => by omega), oX_4.out.kb kz (fun b e => by omega)⟩
      have hLh := Lib.hid hL
      clear hL oX_4 oA_4 oB_4 K4 r4 kz bR_4
      go_wp2
      go_roundw
      case rel => exact ⟨j + 1, by omega, by go_num, hLh.out⟩
      case measure => simp [intOf]; omega
    · have hjn := Lib.hid (show j + 1 = nn by omega)
      obtain ⟨cE0, cE1, cE2⟩ := cells3 bE_0
      have fE := frozen_of_heap bE_0
      have lE := heap_lt bE_0
      have hnV : New wr (wr.alloc (.cells #[.int .i64 13, .int .i64 0, .int .i64 0, .int .i64 0, .int .i64 0] 42)) := (Kp.refl _ _).alloc _
      have cV : ∀ t, t < 5 → (wr.alloc (.cells #[.int .i64 13, .int .i64 0, .int .i64 0, .int .i64 0, .int .i64 0] 42)).cell? ⟨wr.heap.size, t, none⟩ = some (encN ⟨13, 0, 0, 0, 0⟩ t) := newN wr ⟨13, 0, 0, 0, 0⟩ _
      have yV : wr.heap.size < (wr.alloc (.cells #[.int .i64 13, .int .i64 0, .int .i64 0, .int .i64 0, .int .i64 0] 42)).heap.size := lt_alloc _ _
      have hnVh := Lib.hid hnV
      have cVh := Lib.hid cV
      have yVh := Lib.hid yV
      clear hnV cV yV
      go_wp2_with (at_builtin; refine wpList_pushesN rfl _ _ 24 rfl (bo + 1) 42 _ _ Try.underlying24 infoIns rfl (by decide) (.slice a j d) xs rfl (oX_0.out.new hnVh.out) _ [⟨13, 0, 0, 0, 0⟩] rfl (FlR.one (b := wr.heap.size) cVh.out) (fun y hy t => oneN _ _) ?qd1 ?qd2 ?qd3 ?_)
      case qd1 => have := hlX.out; simp; omega
      case qd2 => have := hlX.out; simp; omega
      case qd3 => have := yVh.out; omega
      intro v2 w2 hv2 hk2 ha2
      obtain ⟨a4, d4, e2, _⟩ := hv2.reads.len
      have hm2 : (xs ++ [(⟨13, 0, 0, 0, 0⟩ : Ins)]).length = j + 1 := by simp [hlX.out]
      rw [hm2] at e2
      have k2 : Kp (fun b => bo + 1 ≤ b) (wr.alloc (.cells #[.int .i64 13, .int .i64 0, .int .i64 0, .int .i64 0, .int .i64 0] 42)) w2 := hk2.mono fun b _ e => (oX_0.out.lt b e).1
      subst e2
      have oX_2 := Lib.hid hv2
      have hlY := Lib.hid hm2
      have z2 := k2.size
      have yV := yVh.out
      have oA_2 := Lib.hid ((oA_0.out.new (by omega) hnVh.out).kp k2 (by omega) (fun b e => by omega))
      have oB_2 := Lib.hid ((oB_0.out.new (by omega) hnVh.out).kp k2 (by omega) (fun b e => by omega))
      have bR_2 := (k2.block _ (by have := heap_lt bR_0; omega) (by omega)).trans (heap_new hnVh.out bR_0)
      have bE_2 := (k2.block _ (by have := heap_lt bE_0; omega) (by omega)).trans (heap_new hnVh.out bE_0)
      have K2 := one_new (K0.trans (hnVh.out.mono fun _ _ f => f.elim)) k2 (fun b e => by omega)
      have r2 := (r0.keep hnVh.out (fun _ f => f.elim)).keep k2 (fun b e => by omega)
      clear cE0 cE1 cE2 fE lE
      clear hv2 hk2 ha2 hm2 k2 hnVh cVh yVh oX_0 oA_0 oB_0 bR_0 bE_0 K0 r0 hlX
      generalize xs ++ [(⟨13, 0, 0, 0, 0⟩ : Ins)] = ys at *
      obtain ⟨cE0, cE1, cE2⟩ := cells3 bE_2
      have fE := frozen_of_heap bE_2
      have lE := heap_lt bE_2
      go_upto_region 9 with fail
      have hk3 : Kp (fun k => k = bo) w2 (w2.setCell ⟨bo, 2, none⟩ (.slice a4 (j + 1) d4)) := (Kp.setCell (Kp.refl (fun k => k = bo) _) (.inl rfl) _)
      have bE_3 : (w2.setCell ⟨bo, 2, none⟩ (.slice a4 (j + 1) d4)).heap[bo]? = some (.cells #[.slice a1 xa.length d1, .slice a2 xb.length d2, .slice a4 (j + 1) d4] 26) := (setCell_heap bE_2 _)
      generalize (w2.setCell ⟨bo, 2, none⟩ (.slice a4 (j + 1) d4)) = w3 at *
      have z3 := hk3.size
      have bR_3 := hk3.bo bR_2
      have oA_3 := Lib.hid (oA_2.out.kp hk3 (by omega) (fun b e => by omega))
      have oB_3 := Lib.hid (oB_2.out.kp hk3 (by omega) (fun b e => by omega))
      have oX_3 := Lib.hid (oX_2.out.kb hk3 (fun b e => by omega))
      have K3 : One br w w3 := one_on K2 hk3 (by omega)
      have r3 := r2.kp hk3
      clear cE0 cE1 cE2 fE lE
      clear bR_2 bE_2 oA_2 oB_2 oX_2 K2 r2 hk3
      obtain ⟨-, g, ge, gc, gf⟩ := own_cellsN oX_3.out (by rw [hlY.out]; omega)
      cases ge
      have gfh := Lib.hid gf
      have hl12 : j + 1 ≤ 12 := by omega
      clear gc gf
      rcases hnh.out with hnn | hnn | hnn | hnn | hnn | hnn
      · obtain rfl : nn = 6 := by omega
        obtain rfl : j = 5 := by have := hjn.out; omega
        clear hnn hjn hj hlt
        have hlq : ys.length = 6 := hlY.out
        go_wp2_with fail
        refine (pick w3 br (q) _ r3 (by omega)).mono ?_
        rintro e w4 ⟨v, rfl, v0, v1, v2, hn4, r4⟩
        have z4 := hn4.size
        have bR_4 := hn4.bo bR_3
        have bE_4 := hn4.bo bE_3
        have oA_4 := Lib.hid (oA_3.out.kp hn4 (by omega) (fun b e => by omega))
        have oB_4 := Lib.hid (oB_3.out.kp hn4 (by omega) (fun b e => by omega))
        have oX_4 := Lib.hid (oX_3.out.kb hn4 (fun b e => by omega))
        have K4 := K3.trans hn4
        clear bR_3 bE_3 oA_3 oB_3 oX_3 K3 r3 hn4
        clear v1 v2
        by_cases hv : v = 0
        · subst hv
          obtain ⟨cE0, cE1, cE2⟩ := cells3 bE_4
          have fE := frozen_of_heap bE_4
          have lE := heap_lt bE_4
          go_wp2_with fail
          refine wp_region_tail (k := 7) (S := fun w' => w'.cell? ⟨bo, 2, none⟩ = some (.slice (some ⟨g, 0, none⟩) 6 d4)) (by kernel_rfl) ?_ (fun hHeld => ?_)
          · exact cE2
          clear cE0 cE1 cE2 fE lE
          have hn5 : New w4 w4.drew := (Kp.refl _ _).drew
          generalize w4.drew = w5 at *
          have z5 := hn5.size
          have bR_5 := hn5.bk bR_4
          have bE_5 := hn5.bk bE_4
          have oA_5 := Lib.hid (oA_4.out.new (by omega) hn5)
          have oB_5 := Lib.hid (oB_4.out.new (by omega) hn5)
          have oX_5 := Lib.hid (oX_4.out.new hn5)
          have K5 := K4.nw hn5
          have r5 := r4.nw hn5
          clear bR_4 bE_4 oA_4 oB_4 oX_4 K4 r4 hn5
          have cE2 := cell_of_heap bE_5 2
          have lE := heap_lt bE_5
          refine AnyK.tw 0 rfl ?_
          try simp only [AP]
          refine AnyK.tk 1 rfl ?_
          try simp only [AP]
          refine AnyK.tw 2 rfl ?_
          try simp only [AP]
          refine AnyK.step (i := 3) (by kernel_rfl) rfl (fun K hK => ?_)
          go_simp
          refine (pick w5 br (q + 1) _ r5 (by omega)).mono ?_
          rintro e w6 ⟨u, rfl, u0, u1, u2, hn6, r6⟩
          have z6 := hn6.size
          have bR_6 := hn6.bo bR_5
          have bE_6 := hn6.bo bE_5
          have oA_6 := Lib.hid (oA_5.out.kp hn6 (by omega) (fun b e => by omega))
          have oB_6 := Lib.hid (oB_5.out.kp hn6 (by omega) (fun b e => by omega))
          have oX_6 := Lib.hid (oX_5.out.kb hn6 (fun b e => by omega))
          have K6 := K5.trans hn6
          clear cE2 lE
          clear bR_5 bE_5 oA_5 oB_5 oX_5 K5 r5 hn6
          have u3 : u < 3 := u1 (by omega)
          clear u1 u2
          have hwu : IntKind.i64.wrap (1 + u) = 1 + u := IntWalk.i64_in _ (by omega)
          have cE2 := cell_of_heap bE_6 2
          have lE := heap_lt bE_6
          refine hK.out _ _ ?_ (fun hHeld2 => ?_)
          · exact cE2
          clear hK K hHeld
          have hHeld := hHeld2
          clear hHeld2
          try simp only [AP]
          refine AnyK.tw 4 rfl ?_
          try simp only [AP]
          refine AnyK.tw 5 rfl ?_
          try simp only [AP]
          refine AnyK.tw 6 rfl ?_
          try simp only [AP]
          refine AnyK.last (by kernel_rfl) ?_
          simp only [List.drop_succ_cons, List.drop_zero]
          clear hHeld
          have hX : OwnF 5 encN w6 (bo + 1) 42 (.slice (some ⟨g, 0, none⟩) ys.length d4) ys := by rw [hlq]; exact oX_6.out
          obtain ⟨-, _, ge, gc, gf⟩ := own_cellsN hX (by omega)
          cases ge
          have hj : 0 < ys.length := by omega
          obtain ⟨e0, g0⟩ : ∃ v, w6.cell? ⟨g, 0, none⟩ = some v := ⟨_, gc 0 hj 0 (by decide)⟩
          obtain ⟨e1, g1⟩ : ∃ v, w6.cell? ⟨g, 1, none⟩ = some v := ⟨_, gc 0 hj 1 (by decide)⟩
          obtain ⟨e2, g2⟩ : ∃ v, w6.cell? ⟨g, 2, none⟩ = some v := ⟨_, gc 0 hj 2 (by decide)⟩
          obtain ⟨e3, g3⟩ : ∃ v, w6.cell? ⟨g, 3, none⟩ = some v := ⟨_, gc 0 hj 3 (by decide)⟩
          obtain ⟨e4, g4⟩ : ∃ v, w6.cell? ⟨g, 4, none⟩ = some v := ⟨_, gc 0 hj 4 (by decide)⟩
          have f0 := gf 0
          have f1 := gf 1
          have f2 := gf 2
          have f3 := gf 3
          have f4 := gf 4
          have hX5 : OwnF 5 encN (((((w6.setCell ⟨g, 0, none⟩ (.int .i64 1)).setCell ⟨g, 1, none⟩ (.int .i64 5)).setCell ⟨g, 2, none⟩ (.int .i64 (1 + u))).setCell ⟨g, 3, none⟩ (.int .i64 0)).setCell ⟨g, 4, none⟩ (.int .i64 0)) (bo + 1) 42 (.slice (some ⟨g, 0, none⟩) ys.length d4) (ys.set 0 ⟨1, 5, (1 + u), 0, 0⟩) := own_set5 hX 0 hj ⟨1, 5, (1 + u), 0, 0⟩
          have gx := (hX.lt g (ownBlock_at _ _ _)).1
          have hX5h := Lib.hid hX5
          clear hX hX5 gc gf hj
          clear cE2 lE
          obtain ⟨cE0, cE1, cE2⟩ := cells3 bE_6
          have lE := heap_lt bE_6
          go_upto_region 11 with fail
          have hk7 : Kp (fun b => b = g) w6 (((((w6.setCell ⟨g, 0, none⟩ (.int .i64 1)).setCell ⟨g, 1, none⟩ (.int .i64 5)).setCell ⟨g, 2, none⟩ (.int .i64 (1 + u))).setCell ⟨g, 3, none⟩ (.int .i64 0)).setCell ⟨g, 4, none⟩ (.int .i64 0)) := ((((((Kp.refl (fun b => b = g) _).setCell (.inl rfl) _).setCell (.inl rfl) _).setCell (.inl rfl) _).setCell (.inl rfl) _).setCell (.inl rfl) _)
          have oX_7 := hX5h
          have hlq2 : (ys.set 0 ⟨1, 5, (1 + u), 0, 0⟩).length = 6 := by rw [List.length_set]; exact hlq
          rw [hlq] at oX_7
          generalize ys.set 0 ⟨1, 5, (1 + u), 0, 0⟩ = ysx at *
          generalize (((((w6.setCell ⟨g, 0, none⟩ (.int .i64 1)).setCell ⟨g, 1, none⟩ (.int .i64 5)).setCell ⟨g, 2, none⟩ (.int .i64 (1 + u))).setCell ⟨g, 3, none⟩ (.int .i64 0)).setCell ⟨g, 4, none⟩ (.int .i64 0)) = w7 at *
          clear hX5h g0 f0 g1 f1 g2 f2 g3 f3 g4 f4
          have z7 := hk7.size
          have bR_7 := hk7.bo bR_6
          have bE_7 := hk7.bo bE_6
          have oA_7 := Lib.hid (oA_6.out.kp hk7 (by omega) (fun b e => by omega))
          have oB_7 := Lib.hid (oB_6.out.kp hk7 (by omega) (fun b e => by omega))
          have K7 : One br w w7 := one_on K6 hk7 (by omega)
          have r7 := r6.kp hk7
          clear cE0 cE1 cE2 lE
          clear bR_6 bE_6 oA_6 oB_6 K6 r6 hk7
          clear oX_6
          have hX : OwnF 5 encN w7 (bo + 1) 42 (.slice (some ⟨g, 0, none⟩) ysx.length d4) ysx := by rw [hlq2]; exact oX_7.out
          obtain ⟨-, _, ge, gc, gf⟩ := own_cellsN hX (by omega)
          cases ge
          have hj : 4 < ysx.length := by omega
          obtain ⟨e0, g0⟩ : ∃ v, w7.cell? ⟨g, 20, none⟩ = some v := ⟨_, gc 4 hj 0 (by decide)⟩
          obtain ⟨e1, g1⟩ : ∃ v, w7.cell? ⟨g, 21, none⟩ = some v := ⟨_, gc 4 hj 1 (by decide)⟩
          obtain ⟨e2, g2⟩ : ∃ v, w7.cell? ⟨g, 22, none⟩ = some v := ⟨_, gc 4 hj 2 (by decide)⟩
          obtain ⟨e3, g3⟩ : ∃ v, w7.cell? ⟨g, 23, none⟩ = some v := ⟨_, gc 4 hj 3 (by decide)⟩
          obtain ⟨e4, g4⟩ : ∃ v, w7.cell? ⟨g, 24, none⟩ = some v := ⟨_, gc 4 hj 4 (by decide)⟩
          have f0 := gf 20
          have f1 := gf 21
          have f2 := gf 22
          have f3 := gf 23
          have f4 := gf 24
          have hX5 : OwnF 5 encN (((((w7.setCell ⟨g, 20, none⟩ (.int .i64 10)).setCell ⟨g, 21, none⟩ (.int .i64 5)).setCell ⟨g, 22, none⟩ (.int .i64 1)).setCell ⟨g, 23, none⟩ (.int .i64 0)).setCell ⟨g, 24, none⟩ (.int .i64 0)) (bo + 1) 42 (.slice (some ⟨g, 0, none⟩) ysx.length d4) (ysx.set 4 ⟨10, 5, 1, 0, 0⟩) := own_set5 hX 4 hj ⟨10, 5, 1, 0, 0⟩
          have gx := (hX.lt g (ownBlock_at _ _ _)).1
          have hX5h := Lib.hid hX5
          clear hX hX5 gc gf hj
          obtain ⟨cE0, cE1, cE2⟩ := cells3 bE_7
          have lE := heap_lt bE_7
          go_upto_region 12 with fail
          have hk8 : Kp (fun b => b = g) w7 (((((w7.setCell ⟨g, 20, none⟩ (.int .i64 10)).setCell ⟨g, 21, none⟩ (.int .i64 5)).setCell ⟨g, 22, none⟩ (.int .i64 1)).setCell ⟨g, 23, none⟩ (.int .i64 0)).setCell ⟨g, 24, none⟩ (.int .i64 0)) := ((((((Kp.refl (fun b => b = g) _).setCell (.inl rfl) _).setCell (.inl rfl) _).setCell (.inl rfl) _).setCell (.inl rfl) _).setCell (.inl rfl) _)
          have oX_8 := hX5h
          have hlq3 : (ysx.set 4 ⟨10, 5, 1, 0, 0⟩).length = 6 := by rw [List.length_set]; exact hlq2
          rw [hlq2] at oX_8
          generalize ysx.set 4 ⟨10, 5, 1, 0, 0⟩ = ysxx at *
          generalize (((((w7.setCell ⟨g, 20, none⟩ (.int .i64 10)).setCell ⟨g, 21, none⟩ (.int .i64 5)).setCell ⟨g, 22, none⟩ (.int .i64 1)).setCell ⟨g, 23, none⟩ (.int .i64 0)).setCell ⟨g, 24, none⟩ (.int .i64 0)) = w8 at *
          clear hX5h g0 f0 g1 f1 g2 f2 g3 f3 g4 f4
          have z8 := hk8.size
          have bR_8 := hk8.bo bR_7
          have bE_8 := hk8.bo bE_7
          have oA_8 := Lib.hid (oA_7.out.kp hk8 (by omega) (fun b e => by omega))
          have oB_8 := Lib.hid (oB_7.out.kp hk8 (by omega) (fun b e => by omega))
          have K8 : One br w w8 := one_on K7 hk8 (by omega)
          have r8 := r7.kp hk8
          clear cE0 cE1 cE2 lE
          clear bR_7 bE_7 oA_7 oB_7 K7 r7 hk8
          clear oX_7
          obtain ⟨cE0, cE1, cE2⟩ := cells3 bE_8
          have lE := heap_lt bE_8
          obtain ⟨cR0, cR1, cR2⟩ := cells3 bR_8
          have fR := frozen_of_heap bR_8
          have lR := heap_lt bR_8
          go_wp2
          have hkz := setMany_kp (w.heap.size) [.slice a1 xa.length d1, .slice a2 xb.length d2, .slice (some ⟨g, 0, none⟩) 6 d4] w8 0
          have zs := setMany_size (w.heap.size) [.slice a1 xa.length d1, .slice a2 xb.length d2, .slice (some ⟨g, 0, none⟩) 6 d4] w8 0
          have hR := setMany_row [.slice a1 xa.length d1, .slice a2 xb.length d2, .slice (some ⟨g, 0, none⟩) 6 d4] bR_8 rfl
          exact bodyPost_ret (results_cell_row rfl _ _ _ _ _ _ _ rfl hR Try.underlying26 rfl (by kernel_rfl)) rfl ⟨a1, a2, some ⟨g, 0, none⟩, d1, d2, d4, xa, xb, ysxx, _, (by rw [hlq3]), one_on K8 hkz (by omega), r8.keep hkz (fun b e => by omega), by omega, ((oA_8.out.kp hkz (by omega) (fun i e => by omega)).mono (lo' := w.heap.size) (hi' := (setMany w8 (w.heap.size) 0 [.slice a1 xa.length d1, .slice a2 xb.length d2, .slice (some ⟨g, 0, none⟩) 6 d4]).heap.size) (by omega) (by omega)), ((oB_8.out.kp hkz (by omega) (fun i e => by omega)).mono (lo' := w.heap.size) (hi' := (setMany w8 (w.heap.size) 0 [.slice a1 xa.length d1, .slice a2 xb.length d2, .slice (some ⟨g, 0, none⟩) 6 d4]).heap.size) (by omega) (by omega)), (by have t1 := oX_8.out.kb hkz (fun b e => by omega); have t2 := t1.reads.mono (lo' := w.heap.size) (hi' := (setMany w8 (w.heap.size) 0 [.slice a1 xa.length d1, .slice a2 xb.length d2, .slice (some ⟨g, 0, none⟩) 6 d4]).heap.size) (by omega) (Nat.le_refl _); rw [hlq3]; exact t2), hxa, hxb, by rw [hlq3]; decide⟩
        · have hvb : (v == 0) = false := by simpa using hv
          obtain ⟨cE0, cE1, cE2⟩ := cells3 bE_4
          have lE := heap_lt bE_4
          obtain ⟨cR0, cR1, cR2⟩ := cells3 bR_4
          have fR := frozen_of_heap bR_4
          have lR := heap_lt bR_4
          go_wp2
          have hkz := setMany_kp (w.heap.size) [.slice a1 xa.length d1, .slice a2 xb.length d2, .slice (some ⟨g, 0, none⟩) 6 d4] w4 0
          have zs := setMany_size (w.heap.size) [.slice a1 xa.length d1, .slice a2 xb.length d2, .slice (some ⟨g, 0, none⟩) 6 d4] w4 0
          have hR := setMany_row [.slice a1 xa.length d1, .slice a2 xb.length d2, .slice (some ⟨g, 0, none⟩) 6 d4] bR_4 rfl
          exact bodyPost_ret (results_cell_row rfl _ _ _ _ _ _ _ rfl hR Try.underlying26 rfl (by kernel_rfl)) rfl ⟨a1, a2, some ⟨g, 0, none⟩, d1, d2, d4, xa, xb, ys, _, (by rw [hlq]), one_on K4 hkz (by omega), r4.keep hkz (fun b e => by omega), by omega, ((oA_4.out.kp hkz (by omega) (fun i e => by omega)).mono (lo' := w.heap.size) (hi' := (setMany w4 (w.heap.size) 0 [.slice a1 xa.length d1, .slice a2 xb.length d2, .slice (some ⟨g, 0, none⟩) 6 d4]).heap.size) (by omega) (by omega)), ((oB_4.out.kp hkz (by omega) (fun i e => by omega)).mono (lo' := w.heap.size) (hi' := (setMany w4 (w.heap.size) 0 [.slice a1 xa.length d1, .slice a2 xb.length d2, .slice (some ⟨g, 0, none⟩) 6 d4]).heap.size) (by omega) (by omega)), (by have t1 := oX_4.out.kb hkz (fun b e => by omega); have t2 := t1.reads.mono (lo' := w.heap.size) (hi' := (setMany w4 (w.heap.size) 0 [.slice a1 xa.length d1, .slice a2 xb.length d2, .slice (some ⟨g, 0, none⟩) 6 d4]).heap.size) (by omega) (Nat.le_refl _); rw [hlq]; exact t2), hxa, hxb, by rw [hlq]; decide⟩
      · obtain rfl : nn = 8 := by omega
        obtain rfl : j = 7 := by have := hjn.out; omega
        clear hnn hjn hj hlt
        have hlq : ys.length = 8 := hlY.out
        go_wp2_with fail
        refine (pick w3 br (q) _ r3 (by omega)).mono ?_
        rintro e w4 ⟨v, rfl, v0, v1, v2, hn4, r4⟩
        have z4 := hn4.size
        have bR_4 := hn4.bo bR_3
        have bE_4 := hn4.bo bE_3
        have oA_4 := Lib.hid (oA_3.out.kp hn4 (by omega) (fun b e => by omega))
        have oB_4 := Lib.hid (oB_3.out.kp hn4 (by omega) (fun b e => by omega))
        have oX_4 := Lib.hid (oX_3.out.kb hn4 (fun b e => by omega))
        have K4 := K3.trans hn4
        clear bR_3 bE_3 oA_3 oB_3 oX_3 K3 r3 hn4
        clear v1 v2
        by_cases hv : v = 0
        · subst hv
          obtain ⟨cE0, cE1, cE2⟩ := cells3 bE_4
          have fE := frozen_of_heap bE_4
          have lE := heap_lt bE_4
          go_wp2_with fail
          refine wp_region_tail (k := 7) (S := fun w' => w'.cell? ⟨bo, 2, none⟩ = some (.slice (some ⟨g, 0, none⟩) 8 d4)) (by kernel_rfl) ?_ (fun hHeld => ?_)
          · exact cE2
          clear cE0 cE1 cE2 fE lE
          have hn5 : New w4 w4.drew := (Kp.refl _ _).drew
          generalize w4.drew = w5 at *
          have z5 := hn5.size
          have bR_5 := hn5.bk bR_4
          have bE_5 := hn5.bk bE_4
          have oA_5 := Lib.hid (oA_4.out.new (by omega) hn5)
          have oB_5 := Lib.hid (oB_4.out.new (by omega) hn5)
          have oX_5 := Lib.hid (oX_4.out.new hn5)
          have K5 := K4.nw hn5
          have r5 := r4.nw hn5
          clear bR_4 bE_4 oA_4 oB_4 oX_4 K4 r4 hn5
          have cE2 := cell_of_heap bE_5 2
          have lE := heap_lt bE_5
          refine AnyK.tw 0 rfl ?_
          try simp only [AP]
          refine AnyK.tk 1 rfl ?_
          try simp only [AP]
          refine AnyK.tw 2 rfl ?_
          try simp only [AP]
          refine AnyK.step (i := 3) (by kernel_rfl) rfl (fun K hK => ?_)
          go_simp
          refine (pick w5 br (q + 1) _ r5 (by omega)).mono ?_
          rintro e w6 ⟨u, rfl, u0, u1, u2, hn6, r6⟩
          have z6 := hn6.size
          have bR_6 := hn6.bo bR_5
          have bE_6 := hn6.bo bE_5
          have oA_6 := Lib.hid (oA_5.out.kp hn6 (by omega) (fun b e => by omega))
          have oB_6 := Lib.hid (oB_5.out.kp hn6 (by omega) (fun b e => by omega))
          have oX_6 := Lib.hid (oX_5.out.kb hn6 (fun b e => by omega))
          have K6 := K5.trans hn6
          clear cE2 lE
          clear bR_5 bE_5 oA_5 oB_5 oX_5 K5 r5 hn6
          have u3 : u < 3 := u1 (by omega)
          clear u1 u2
          have hwu : IntKind.i64.wrap (1 + u) = 1 + u := IntWalk.i64_in _ (by omega)
          have cE2 := cell_of_heap bE_6 2
          have lE := heap_lt bE_6
          refine hK.out _ _ ?_ (fun hHeld2 => ?_)
          · exact cE2
          clear hK K hHeld
          have hHeld := hHeld2
          clear hHeld2
          try simp only [AP]
          refine AnyK.tw 4 rfl ?_
          try simp only [AP]
          refine AnyK.tw 5 rfl ?_
          try simp only [AP]
          refine AnyK.tw 6 rfl ?_
          try simp only [AP]
          refine AnyK.last (by kernel_rfl) ?_
          simp only [List.drop_succ_cons, List.drop_zero]
          clear hHeld
          have hX : OwnF 5 encN w6 (bo + 1) 42 (.slice (some ⟨g, 0, none⟩) ys.length d4) ys := by rw [hlq]; exact oX_6.out
          obtain ⟨-, _, ge, gc, gf⟩ := own_cellsN hX (by omega)
          cases ge
          have hj : 0 < ys.length := by omega
          obtain ⟨e0, g0⟩ : ∃ v, w6.cell? ⟨g, 0, none⟩ = some v := ⟨_, gc 0 hj 0 (by decide)⟩
          obtain ⟨e1, g1⟩ : ∃ v, w6.cell? ⟨g, 1, none⟩ = some v := ⟨_, gc 0 hj 1 (by decide)⟩
          obtain ⟨e2, g2⟩ : ∃ v, w6.cell? ⟨g, 2, none⟩ = some v := ⟨_, gc 0 hj 2 (by decide)⟩
          obtain ⟨e3, g3⟩ : ∃ v, w6.cell? ⟨g, 3, none⟩ = some v := ⟨_, gc 0 hj 3 (by decide)⟩
          obtain ⟨e4, g4⟩ : ∃ v, w6.cell? ⟨g, 4, none⟩ = some v := ⟨_, gc 0 hj 4 (by decide)⟩
          have f0 := gf 0
          have f1 := gf 1
          have f2 := gf 2
          have f3 := gf 3
          have f4 := gf 4
          have hX5 : OwnF 5 encN (((((w6.setCell ⟨g, 0, none⟩ (.int .i64 1)).setCell ⟨g, 1, none⟩ (.int .i64 5)).setCell ⟨g, 2, none⟩ (.int .i64 (1 + u))).setCell ⟨g, 3, none⟩ (.int .i64 0)).setCell ⟨g, 4, none⟩ (.int .i64 0)) (bo + 1) 42 (.slice (some ⟨g, 0, none⟩) ys.length d4) (ys.set 0 ⟨1, 5, (1 + u), 0, 0⟩) := own_set5 hX 0 hj ⟨1, 5, (1 + u), 0, 0⟩
          have gx := (hX.lt g (ownBlock_at _ _ _)).1
          have hX5h := Lib.hid hX5
          clear hX hX5 gc gf hj
          clear cE2 lE
          obtain ⟨cE0, cE1, cE2⟩ := cells3 bE_6
          have lE := heap_lt bE_6
          go_upto_region 11 with fail
          have hk7 : Kp (fun b => b = g) w6 (((((w6.setCell ⟨g, 0, none⟩ (.int .i64 1)).setCell ⟨g, 1, none⟩ (.int .i64 5)).setCell ⟨g, 2, none⟩ (.int .i64 (1 + u))).setCell ⟨g, 3, none⟩ (.int .i64 0)).setCell ⟨g, 4, none⟩ (.int .i64 0)) := ((((((Kp.refl (fun b => b = g) _).setCell (.inl rfl) _).setCell (.inl rfl) _).setCell (.inl rfl) _).setCell (.inl rfl) _).setCell (.inl rfl) _)
          have oX_7 := hX5h
          have hlq2 : (ys.set 0 ⟨1, 5, (1 + u), 0, 0⟩).length = 8 := by rw [List.length_set]; exact hlq
          rw [hlq] at oX_7
          generalize ys.set 0 ⟨1, 5, (1 + u), 0, 0⟩ = ysx at *
          generalize (((((w6.setCell ⟨g, 0, none⟩ (.int .i64 1)).setCell ⟨g, 1, none⟩ (.int .i64 5)).setCell ⟨g, 2, none⟩ (.int .i64 (1 + u))).setCell ⟨g, 3, none⟩ (.int .i64 0)).setCell ⟨g, 4, none⟩ (.int .i64 0)) = w7 at *
          clear hX5h g0 f0 g1 f1 g2 f2 g3 f3 g4 f4
          have z7 := hk7.size
          have bR_7 := hk7.bo bR_6
          have bE_7 := hk7.bo bE_6
          have oA_7 := Lib.hid (oA_6.out.kp hk7 (by omega) (fun b e => by omega))
          have oB_7 := Lib.hid (oB_6.out.kp hk7 (by omega) (fun b e => by omega))
          have K7 : One br w w7 := one_on K6 hk7 (by omega)
          have r7 := r6.kp hk7
          clear cE0 cE1 cE2 lE
          clear bR_6 bE_6 oA_6 oB_6 K6 r6 hk7
          clear oX_6
          have hX : OwnF 5 encN w7 (bo + 1) 42 (.slice (some ⟨g, 0, none⟩) ysx.length d4) ysx := by rw [hlq2]; exact oX_7.out
          obtain ⟨-, _, ge, gc, gf⟩ := own_cellsN hX (by omega)
          cases ge
          have hj : 6 < ysx.length := by omega
          obtain ⟨e0, g0⟩ : ∃ v, w7.cell? ⟨g, 30, none⟩ = some v := ⟨_, gc 6 hj 0 (by decide)⟩
          obtain ⟨e1, g1⟩ : ∃ v, w7.cell? ⟨g, 31, none⟩ = some v := ⟨_, gc 6 hj 1 (by decide)⟩
          obtain ⟨e2, g2⟩ : ∃ v, w7.cell? ⟨g, 32, none⟩ = some v := ⟨_, gc 6 hj 2 (by decide)⟩
          obtain ⟨e3, g3⟩ : ∃ v, w7.cell? ⟨g, 33, none⟩ = some v := ⟨_, gc 6 hj 3 (by decide)⟩
          obtain ⟨e4, g4⟩ : ∃ v, w7.cell? ⟨g, 34, none⟩ = some v := ⟨_, gc 6 hj 4 (by decide)⟩
          have f0 := gf 30
          have f1 := gf 31
          have f2 := gf 32
          have f3 := gf 33
          have f4 := gf 34
          have hX5 : OwnF 5 encN (((((w7.setCell ⟨g, 30, none⟩ (.int .i64 10)).setCell ⟨g, 31, none⟩ (.int .i64 5)).setCell ⟨g, 32, none⟩ (.int .i64 1)).setCell ⟨g, 33, none⟩ (.int .i64 0)).setCell ⟨g, 34, none⟩ (.int .i64 0)) (bo + 1) 42 (.slice (some ⟨g, 0, none⟩) ysx.length d4) (ysx.set 6 ⟨10, 5, 1, 0, 0⟩) := own_set5 hX 6 hj ⟨10, 5, 1, 0, 0⟩
          have gx := (hX.lt g (ownBlock_at _ _ _)).1
          have hX5h := Lib.hid hX5
          clear hX hX5 gc gf hj
          obtain ⟨cE0, cE1, cE2⟩ := cells3 bE_7
          have lE := heap_lt bE_7
          go_upto_region 12 with fail
          have hk8 : Kp (fun b => b = g) w7 (((((w7.setCell ⟨g, 30, none⟩ (.int .i64 10)).setCell ⟨g, 31, none⟩ (.int .i64 5)).setCell ⟨g, 32, none⟩ (.int .i64 1)).setCell ⟨g, 33, none⟩ (.int .i64 0)).setCell ⟨g, 34, none⟩ (.int .i64 0)) := ((((((Kp.refl (fun b => b = g) _).setCell (.inl rfl) _).setCell (.inl rfl) _).setCell (.inl rfl) _).setCell (.inl rfl) _).setCell (.inl rfl) _)
          have oX_8 := hX5h
          have hlq3 : (ysx.set 6 ⟨10, 5, 1, 0, 0⟩).length = 8 := by rw [List.length_set]; exact hlq2
          rw [hlq2] at oX_8
          generalize ysx.set 6 ⟨10, 5, 1, 0, 0⟩ = ysxx at *
          generalize (((((w7.setCell ⟨g, 30, none⟩ (.int .i64 10)).setCell ⟨g, 31, none⟩ (.int .i64 5)).setCell ⟨g, 32, none⟩ (.int .i64 1)).setCell ⟨g, 33, none⟩ (.int .i64 0)).setCell ⟨g, 34, none⟩ (.int .i64 0)) = w8 at *
          clear hX5h g0 f0 g1 f1 g2 f2 g3 f3 g4 f4
          have z8 := hk8.size
          have bR_8 := hk8.bo bR_7
          have bE_8 := hk8.bo bE_7
          have oA_8 := Lib.hid (oA_7.out.kp hk8 (by omega) (fun b e => by omega))
          have oB_8 := Lib.hid (oB_7.out.kp hk8 (by omega) (fun b e => by omega))
          have K8 : One br w w8 := one_on K7 hk8 (by omega)
          have r8 := r7.kp hk8
          clear cE0 cE1 cE2 lE
          clear bR_7 bE_7 oA_7 oB_7 K7 r7 hk8
          clear oX_7
          obtain ⟨cE0, cE1, cE2⟩ := cells3 bE_8
          have lE := heap_lt bE_8
          obtain ⟨cR0, cR1, cR2⟩ := cells3 bR_8
          have fR := frozen_of_heap bR_8
          have lR := heap_lt bR_8
          go_wp2
          have hkz := setMany_kp (w.heap.size) [.slice a1 xa.length d1, .slice a2 xb.length d2, .slice (some ⟨g, 0, none⟩) 8 d4] w8 0
          have zs := setMany_size (w.heap.size) [.slice a1 xa.length d1, .slice a2 xb.length d2, .slice (some ⟨g, 0, none⟩) 8 d4] w8 0
          have hR := setMany_row [.slice a1 xa.length d1, .slice a2 xb.length d2, .slice (some ⟨g, 0, none⟩) 8 d4] bR_8 rfl
          exact bodyPost_ret (results_cell_row rfl _ _ _ _ _ _ _ rfl hR Try.underlying26 rfl (by kernel_rfl)) rfl ⟨a1, a2, some ⟨g, 0, none⟩, d1, d2, d4, xa, xb, ysxx, _, (by rw [hlq3]), one_on K8 hkz (by omega), r8.keep hkz (fun b e => by omega), by omega, ((oA_8.out.kp hkz (by omega) (fun i e => by omega)).mono (lo' := w.heap.size) (hi' := (setMany w8 (w.heap.size) 0 [.slice a1 xa.length d1, .slice a2 xb.length d2, .slice (some ⟨g, 0, none⟩) 8 d4]).heap.size) (by omega) (by omega)), ((oB_8.out.kp hkz (by omega) (fun i e => by omega)).mono (lo' := w.heap.size) (hi' := (setMany w8 (w.heap.size) 0 [.slice a1 xa.length d1, .slice a2 xb.length d2, .slice (some ⟨g, 0, none⟩) 8 d4]).heap.size) (by omega) (by omega)), (by have t1 := oX_8.out.kb hkz (fun b e => by omega); have t2 := t1.reads.mono (lo' := w.heap.size) (hi' := (setMany w8 (w.heap.size) 0 [.slice a1 xa.length d1, .slice a2 xb.length d2, .slice (some ⟨g, 0, none⟩) 8 d4]).heap.size) (by omega) (Nat.le_refl _); rw [hlq3]; exact t2), hxa, hxb, by rw [hlq3]; decide⟩
        · have hvb : (v == 0) = false := by simpa using hv
          obtain ⟨cE0, cE1, cE2⟩ := cells3 bE_4
          have lE := heap_lt bE_4
          obtain ⟨cR0, cR1, cR2⟩ := cells3 bR_4
          have fR := frozen_of_heap bR_4
          have lR := heap_lt bR_4
          go_wp2
          have hkz := setMany_kp (w.heap.size) [.slice a1 xa.length d1, .slice a2 xb.length d2, .slice (some ⟨g, 0, none⟩) 8 d4] w4 0
          have zs := setMany_size (w.heap.size) [.slice a1 xa.length d1, .slice a2 xb.length d2, .slice (some ⟨g, 0, none⟩) 8 d4] w4 0
          have hR := setMany_row [.slice a1 xa.length d1, .slice a2 xb.length d2, .slice (some ⟨g, 0, none⟩) 8 d4] bR_4 rfl
          exact bodyPost_ret (results_cell_row rfl _ _ _ _ _ _ _ rfl hR Try.underlying26 rfl (by kernel_rfl)) rfl ⟨a1, a2, some ⟨g, 0, none⟩, d1, d2, d4, xa, xb, ys, _, (by rw [hlq]), one_on K4 hkz (by omega), r4.keep hkz (fun b e => by omega), by omega, ((oA_4.out.kp hkz (by omega) (fun i e => by omega)).mono (lo' := w.heap.size) (hi' := (setMany w4 (w.heap.size) 0 [.slice a1 xa.length d1, .slice a2 xb.length d2, .slice (some ⟨g, 0, none⟩) 8 d4]).heap.size) (by omega) (by omega)), ((oB_4.out.kp hkz (by omega) (fun i e => by omega)).mono (lo' := w.heap.size) (hi' := (setMany w4 (w.heap.size) 0 [.slice a1 xa.length d1, .slice a2 xb.length d2, .slice (some ⟨g, 0, none⟩) 8 d4]).heap.size) (by omega) (by omega)), (by have t1 := oX_4.out.kb hkz (fun b e => by omega); have t2 := t1.reads.mono (lo' := w.heap.size) (hi' := (setMany w4 (w.heap.size) 0 [.slice a1 xa.length d1, .slice a2 xb.length d2, .slice (some ⟨g, 0, none⟩) 8 d4]).heap.size) (by omega) (Nat.le_refl _); rw [hlq]; exact t2), hxa, hxb, by rw [hlq]; decide⟩
      · obtain rfl : nn = 4 := by omega
        obtain rfl : j = 3 := by have := hjn.out; omega
        clear hnn hjn hj hlt
        have hlq : ys.length = 4 := hlY.out
        go_wp2_with fail
        refine (pick w3 br (q) _ r3 (by omega)).mono ?_
        rintro e w4 ⟨v, rfl, v0, v1, v2, hn4, r4⟩
        have z4 := hn4.size
        have bR_4 := hn4.bo bR_3
        have bE_4 := hn4.bo bE_3
        have oA_4 := Lib.hid (oA_3.out.kp hn4 (by omega) (fun b e => by omega))
        have oB_4 := Lib.hid (oB_3.out.kp hn4 (by omega) (fun b e => by omega))
        have oX_4 := Lib.hid (oX_3.out.kb hn4 (fun b e => by omega))
        have K4 := K3.trans hn4
        clear bR_3 bE_3 oA_3 oB_3 oX_3 K3 r3 hn4
        clear v1 v2
        by_cases hv : v = 0
        · subst hv
          obtain ⟨cE0, cE1, cE2⟩ := cells3 bE_4
          have fE := frozen_of_heap bE_4
          have lE := heap_lt bE_4
          go_wp2_with fail
          refine wp_region_tail (k := 7) (S := fun w' => w'.cell? ⟨bo, 2, none⟩ = some (.slice (some ⟨g, 0, none⟩) 4 d4)) (by kernel_rfl) ?_ (fun hHeld => ?_)
          · exact cE2
          clear cE0 cE1 cE2 fE lE
          have hn5 : New w4 w4.drew := (Kp.refl _ _).drew
          generalize w4.drew = w5 at *
          have z5 := hn5.size
          have bR_5 := hn5.bk bR_4
          have bE_5 := hn5.bk bE_4
          have oA_5 := Lib.hid (oA_4.out.new (by omega) hn5)
          have oB_5 := Lib.hid (oB_4.out.new (by omega) hn5)
          have oX_5 := Lib.hid (oX_4.out.new hn5)
          have K5 := K4.nw hn5
          have r5 := r4.nw hn5
          clear bR_4 bE_4 oA_4 oB_4 oX_4 K4 r4 hn5
          have cE2 := cell_of_heap bE_5 2
          have lE := heap_lt bE_5
          refine AnyK.tw 0 rfl ?_
          try simp only [AP]
          refine AnyK.tk 1 rfl ?_
          try simp only [AP]
          refine AnyK.tw 2 rfl ?_
          try simp only [AP]
          refine AnyK.step (i := 3) (by kernel_rfl) rfl (fun K hK => ?_)
          go_simp
          refine (pick w5 br (q + 1) _ r5 (by omega)).mono ?_
          rintro e w6 ⟨u, rfl, u0, u1, u2, hn6, r6⟩
          have z6 := hn6.size
          have bR_6 := hn6.bo bR_5
          have bE_6 := hn6.bo bE_5
          have oA_6 := Lib.hid (oA_5.out.kp hn6 (by omega) (fun b e => by omega))
          have oB_6 := Lib.hid (oB_5.out.kp hn6 (by omega) (fun b e => by omega))
          have oX_6 := Lib.hid (oX_5.out.kb hn6 (fun b e => by omega))
          have K6 := K5.trans hn6
          clear cE2 lE
          clear bR_5 bE_5 oA_5 oB_5 oX_5 K5 r5 hn6
          have u3 : u < 3 := u1 (by omega)
          clear u1 u2
          have hwu : IntKind.i64.wrap (1 + u) = 1 + u := IntWalk.i64_in _ (by omega)
          have cE2 := cell_of_heap bE_6 2
          have lE := heap_lt bE_6
          refine hK.out _ _ ?_ (fun hHeld2 => ?_)
          · exact cE2
          clear hK K hHeld
          have hHeld := hHeld2
          clear hHeld2
          try simp only [AP]
          refine AnyK.tw 4 rfl ?_
          try simp only [AP]
          refine AnyK.tw 5 rfl ?_
          try simp only [AP]
          refine AnyK.tw 6 rfl ?_
          try simp only [AP]
          refine AnyK.last (by kernel_rfl) ?_
          simp only [List.drop_succ_cons, List.drop_zero]
          clear hHeld
          have hX : OwnF 5 encN w6 (bo + 1) 42 (.slice (some ⟨g, 0, none⟩) ys.length d4) ys := by rw [hlq]; exact oX_6.out
          obtain ⟨-, _, ge, gc, gf⟩ := own_cellsN hX (by omega)
          cases ge
          have hj : 0 < ys.length := by omega
          obtain ⟨e0, g0⟩ : ∃ v, w6.cell? ⟨g, 0, none⟩ = some v := ⟨_, gc 0 hj 0 (by decide)⟩
          obtain ⟨e1, g1⟩ : ∃ v, w6.cell? ⟨g, 1, none⟩ = some v := ⟨_, gc 0 hj 1 (by decide)⟩
          obtain ⟨e2, g2⟩ : ∃ v, w6.cell? ⟨g, 2, none⟩ = some v := ⟨_, gc 0 hj 2 (by decide)⟩
          obtain ⟨e3, g3⟩ : ∃ v, w6.cell? ⟨g, 3, none⟩ = some v := ⟨_, gc 0 hj 3 (by decide)⟩
          obtain ⟨e4, g4⟩ : ∃ v, w6.cell? ⟨g, 4, none⟩ = some v := ⟨_, gc 0 hj 4 (by decide)⟩
          have f0 := gf 0
          have f1 := gf 1
          have f2 := gf 2
          have f3 := gf 3
          have f4 := gf 4
          have hX5 : OwnF 5 encN (((((w6.setCell ⟨g, 0, none⟩ (.int .i64 1)).setCell ⟨g, 1, none⟩ (.int .i64 5)).setCell ⟨g, 2, none⟩ (.int .i64 (1 + u))).setCell ⟨g, 3, none⟩ (.int .i64 0)).setCell ⟨g, 4, none⟩ (.int .i64 0)) (bo + 1) 42 (.slice (some ⟨g, 0, none⟩) ys.length d4) (ys.set 0 ⟨1, 5, (1 + u), 0, 0⟩) := own_set5 hX 0 hj ⟨1, 5, (1 + u), 0, 0⟩
          have gx := (hX.lt g (ownBlock_at _ _ _)).1
          have hX5h := Lib.hid hX5
          clear hX hX5 gc gf hj
          clear cE2 lE
          obtain ⟨cE0, cE1, cE2⟩ := cells3 bE_6
          have lE := heap_lt bE_6
          go_upto_region 11 with fail
          have hk7 : Kp (fun b => b = g) w6 (((((w6.setCell ⟨g, 0, none⟩ (.int .i64 1)).setCell ⟨g, 1, none⟩ (.int .i64 5)).setCell ⟨g, 2, none⟩ (.int .i64 (1 + u))).setCell ⟨g, 3, none⟩ (.int .i64 0)).setCell ⟨g, 4, none⟩ (.int .i64 0)) := ((((((Kp.refl (fun b => b = g) _).setCell (.inl rfl) _).setCell (.inl rfl) _).setCell (.inl rfl) _).setCell (.inl rfl) _).setCell (.inl rfl) _)
          have oX_7 := hX5h
          have hlq2 : (ys.set 0 ⟨1, 5, (1 + u), 0, 0⟩).length = 4 := by rw [List.length_set]; exact hlq
          rw [hlq] at oX_7
          generalize ys.set 0 ⟨1, 5, (1 + u), 0, 0⟩ = ysx at *
          generalize (((((w6.setCell ⟨g, 0, none⟩ (.int .i64 1)).setCell ⟨g, 1, none⟩ (.int .i64 5)).setCell ⟨g, 2, none⟩ (.int .i64 (1 + u))).setCell ⟨g, 3, none⟩ (.int .i64 0)).setCell ⟨g, 4, none⟩ (.int .i64 0)) = w7 at *
          clear hX5h g0 f0 g1 f1 g2 f2 g3 f3 g4 f4
          have z7 := hk7.size
          have bR_7 := hk7.bo bR_6
          have bE_7 := hk7.bo bE_6
          have oA_7 := Lib.hid (oA_6.out.kp hk7 (by omega) (fun b e => by omega))
          have oB_7 := Lib.hid (oB_6.out.kp hk7 (by omega) (fun b e => by omega))
          have K7 : One br w w7 := one_on K6 hk7 (by omega)
          have r7 := r6.kp hk7
          clear cE0 cE1 cE2 lE
          clear bR_6 bE_6 oA_6 oB_6 K6 r6 hk7
          clear oX_6
          have hX : OwnF 5 encN w7 (bo + 1) 42 (.slice (some ⟨g, 0, none⟩) ysx.length d4) ysx := by rw [hlq2]; exact oX_7.out
          obtain ⟨-, _, ge, gc, gf⟩ := own_cellsN hX (by omega)
          cases ge
          have hj : 2 < ysx.length := by omega
          obtain ⟨e0, g0⟩ : ∃ v, w7.cell? ⟨g, 10, none⟩ = some v := ⟨_, gc 2 hj 0 (by decide)⟩
          obtain ⟨e1, g1⟩ : ∃ v, w7.cell? ⟨g, 11, none⟩ = some v := ⟨_, gc 2 hj 1 (by decide)⟩
          obtain ⟨e2, g2⟩ : ∃ v, w7.cell? ⟨g, 12, none⟩ = some v := ⟨_, gc 2 hj 2 (by decide)⟩
          obtain ⟨e3, g3⟩ : ∃ v, w7.cell? ⟨g, 13, none⟩ = some v := ⟨_, gc 2 hj 3 (by decide)⟩
          obtain ⟨e4, g4⟩ : ∃ v, w7.cell? ⟨g, 14, none⟩ = some v := ⟨_, gc 2 hj 4 (by decide)⟩
          have f0 := gf 10
          have f1 := gf 11
          have f2 := gf 12
          have f3 := gf 13
          have f4 := gf 14
          have hX5 : OwnF 5 encN (((((w7.setCell ⟨g, 10, none⟩ (.int .i64 10)).setCell ⟨g, 11, none⟩ (.int .i64 5)).setCell ⟨g, 12, none⟩ (.int .i64 1)).setCell ⟨g, 13, none⟩ (.int .i64 0)).setCell ⟨g, 14, none⟩ (.int .i64 0)) (bo + 1) 42 (.slice (some ⟨g, 0, none⟩) ysx.length d4) (ysx.set 2 ⟨10, 5, 1, 0, 0⟩) := own_set5 hX 2 hj ⟨10, 5, 1, 0, 0⟩
          have gx := (hX.lt g (ownBlock_at _ _ _)).1
          have hX5h := Lib.hid hX5
          clear hX hX5 gc gf hj
          obtain ⟨cE0, cE1, cE2⟩ := cells3 bE_7
          have lE := heap_lt bE_7
          go_upto_region 12 with fail
          have hk8 : Kp (fun b => b = g) w7 (((((w7.setCell ⟨g, 10, none⟩ (.int .i64 10)).setCell ⟨g, 11, none⟩ (.int .i64 5)).setCell ⟨g, 12, none⟩ (.int .i64 1)).setCell ⟨g, 13, none⟩ (.int .i64 0)).setCell ⟨g, 14, none⟩ (.int .i64 0)) := ((((((Kp.refl (fun b => b = g) _).setCell (.inl rfl) _).setCell (.inl rfl) _).setCell (.inl rfl) _).setCell (.inl rfl) _).setCell (.inl rfl) _)
          have oX_8 := hX5h
          have hlq3 : (ysx.set 2 ⟨10, 5, 1, 0, 0⟩).length = 4 := by rw [List.length_set]; exact hlq2
          rw [hlq2] at oX_8
          generalize ysx.set 2 ⟨10, 5, 1, 0, 0⟩ = ysxx at *
          generalize (((((w7.setCell ⟨g, 10, none⟩ (.int .i64 10)).setCell ⟨g, 11, none⟩ (.int .i64 5)).setCell ⟨g, 12, none⟩ (.int .i64 1)).setCell ⟨g, 13, none⟩ (.int .i64 0)).setCell ⟨g, 14, none⟩ (.int .i64 0)) = w8 at *
          clear hX5h g0 f0 g1 f1 g2 f2 g3 f3 g4 f4
          have z8 := hk8.size
          have bR_8 := hk8.bo bR_7
          have bE_8 := hk8.bo bE_7
          have oA_8 := Lib.hid (oA_7.out.kp hk8 (by omega) (fun b e => by omega))
          have oB_8 := Lib.hid (oB_7.out.kp hk8 (by omega) (fun b e => by omega))
          have K8 : One br w w8 := one_on K7 hk8 (by omega)
          have r8 := r7.kp hk8
          clear cE0 cE1 cE2 lE
          clear bR_7 bE_7 oA_7 oB_7 K7 r7 hk8
          clear oX_7
          obtain ⟨cE0, cE1, cE2⟩ := cells3 bE_8
          have lE := heap_lt bE_8
          obtain ⟨cR0, cR1, cR2⟩ := cells3 bR_8
          have fR := frozen_of_heap bR_8
          have lR := heap_lt bR_8
          go_wp2
          have hkz := setMany_kp (w.heap.size) [.slice a1 xa.length d1, .slice a2 xb.length d2, .slice (some ⟨g, 0, none⟩) 4 d4] w8 0
          have zs := setMany_size (w.heap.size) [.slice a1 xa.length d1, .slice a2 xb.length d2, .slice (some ⟨g, 0, none⟩) 4 d4] w8 0
          have hR := setMany_row [.slice a1 xa.length d1, .slice a2 xb.length d2, .slice (some ⟨g, 0, none⟩) 4 d4] bR_8 rfl
          exact bodyPost_ret (results_cell_row rfl _ _ _ _ _ _ _ rfl hR Try.underlying26 rfl (by kernel_rfl)) rfl ⟨a1, a2, some ⟨g, 0, none⟩, d1, d2, d4, xa, xb, ysxx, _, (by rw [hlq3]), one_on K8 hkz (by omega), r8.keep hkz (fun b e => by omega), by omega, ((oA_8.out.kp hkz (by omega) (fun i e => by omega)).mono (lo' := w.heap.size) (hi' := (setMany w8 (w.heap.size) 0 [.slice a1 xa.length d1, .slice a2 xb.length d2, .slice (some ⟨g, 0, none⟩) 4 d4]).heap.size) (by omega) (by omega)), ((oB_8.out.kp hkz (by omega) (fun i e => by omega)).mono (lo' := w.heap.size) (hi' := (setMany w8 (w.heap.size) 0 [.slice a1 xa.length d1, .slice a2 xb.length d2, .slice (some ⟨g, 0, none⟩) 4 d4]).heap.size) (by omega) (by omega)), (by have t1 := oX_8.out.kb hkz (fun b e => by omega); have t2 := t1.reads.mono (lo' := w.heap.size) (hi' := (setMany w8 (w.heap.size) 0 [.slice a1 xa.length d1, .slice a2 xb.length d2, .slice (some ⟨g, 0, none⟩) 4 d4]).heap.size) (by omega) (Nat.le_refl _); rw [hlq3]; exact t2), hxa, hxb, by rw [hlq3]; decide⟩
        · have hvb : (v == 0) = false := by simpa using hv
          obtain ⟨cE0, cE1, cE2⟩ := cells3 bE_4
          have lE := heap_lt bE_4
          obtain ⟨cR0, cR1, cR2⟩ := cells3 bR_4
          have fR := frozen_of_heap bR_4
          have lR := heap_lt bR_4
          go_wp2
          have hkz := setMany_kp (w.heap.size) [.slice a1 xa.length d1, .slice a2 xb.length d2, .slice (some ⟨g, 0, none⟩) 4 d4] w4 0
          have zs := setMany_size (w.heap.size) [.slice a1 xa.length d1, .slice a2 xb.length d2, .slice (some ⟨g, 0, none⟩) 4 d4] w4 0
          have hR := setMany_row [.slice a1 xa.length d1, .slice a2 xb.length d2, .slice (some ⟨g, 0, none⟩) 4 d4] bR_4 rfl
          exact bodyPost_ret (results_cell_row rfl _ _ _ _ _ _ _ rfl hR Try.underlying26 rfl (by kernel_rfl)) rfl ⟨a1, a2, some ⟨g, 0, none⟩, d1, d2, d4, xa, xb, ys, _, (by rw [hlq]), one_on K4 hkz (by omega), r4.keep hkz (fun b e => by omega), by omega, ((oA_4.out.kp hkz (by omega) (fun i e => by omega)).mono (lo' := w.heap.size) (hi' := (setMany w4 (w.heap.size) 0 [.slice a1 xa.length d1, .slice a2 xb.length d2, .slice (some ⟨g, 0, none⟩) 4 d4]).heap.size) (by omega) (by omega)), ((oB_4.out.kp hkz (by omega) (fun i e => by omega)).mono (lo' := w.heap.size) (hi' := (setMany w4 (w.heap.size) 0 [.slice a1 xa.length d1, .slice a2 xb.length d2, .slice (some ⟨g, 0, none⟩) 4 d4]).heap.size) (by omega) (by omega)), (by have t1 := oX_4.out.kb hkz (fun b e => by omega); have t2 := t1.reads.mono (lo' := w.heap.size) (hi' := (setMany w4 (w.heap.size) 0 [.slice a1 xa.length d1, .slice a2 xb.length d2, .slice (some ⟨g, 0, none⟩) 4 d4]).heap.size) (by omega) (Nat.le_refl _); rw [hlq]; exact t2), hxa, hxb, by rw [hlq]; decide⟩
      · obtain rfl : nn = 10 := by omega
        obtain rfl : j = 9 := by have := hjn.out; omega
        clear hnn hjn hj hlt
        have hlq : ys.length = 10 := hlY.out
        go_wp2_with fail
        refine (pick w3 br (q) _ r3 (by omega)).mono ?_
        rintro e w4 ⟨v, rfl, v0, v1, v2, hn4, r4⟩
        have z4 := hn4.size
        have bR_4 := hn4.bo bR_3
        have bE_4 := hn4.bo bE_3
        have oA_4 := Lib.hid (oA_3.out.kp hn4 (by omega) (fun b e => by omega))
        have oB_4 := Lib.hid (oB_3.out.kp hn4 (by omega) (fun b e => by omega))
        have oX_4 := Lib.hid (oX_3.out.kb hn4 (fun b e => by omega))
        have K4 := K3.trans hn4
        clear bR_3 bE_3 oA_3 oB_3 oX_3 K3 r3 hn4
        clear v1 v2
        by_cases hv : v = 0
        · subst hv
          obtain ⟨cE0, cE1, cE2⟩ := cells3 bE_4
          have fE := frozen_of_heap bE_4
          have lE := heap_lt bE_4
          go_wp2_with fail
          refine wp_region_tail (k := 7) (S := fun w' => w'.cell? ⟨bo, 2, none⟩ = some (.slice (some ⟨g, 0, none⟩) 10 d4)) (by kernel_rfl) ?_ (fun hHeld => ?_)
          · exact cE2
          clear cE0 cE1 cE2 fE lE
          have hn5 : New w4 w4.drew := (Kp.refl _ _).drew
          generalize w4.drew = w5 at *
          have z5 := hn5.size
          have bR_5 := hn5.bk bR_4
          have bE_5 := hn5.bk bE_4
          have oA_5 := Lib.hid (oA_4.out.new (by omega) hn5)
          have oB_5 := Lib.hid (oB_4.out.new (by omega) hn5)
          have oX_5 := Lib.hid (oX_4.out.new hn5)
          have K5 := K4.nw hn5
          have r5 := r4.nw hn5
          clear bR_4 bE_4 oA_4 oB_4 oX_4 K4 r4 hn5
          have cE2 := cell_of_heap bE_5 2
          have lE := heap_lt bE_5
          refine AnyK.tw 0 rfl ?_
          try simp only [AP]
          refine AnyK.tk 1 rfl ?_
          try simp only [AP]
          refine AnyK.tw 2 rfl ?_
          try simp only [AP]
          refine AnyK.step (i := 3) (by kernel_rfl) rfl (fun K hK => ?_)
          go_simp
          refine (pick w5 br (q + 1) _ r5 (by omega)).mono ?_
          rintro e w6 ⟨u, rfl, u0, u1, u2, hn6, r6⟩
          have z6 := hn6.size
          have bR_6 := hn6.bo bR_5
          have bE_6 := hn6.bo bE_5
          have oA_6 := Lib.hid (oA_5.out.kp hn6 (by omega) (fun b e => by omega))
          have oB_6 := Lib.hid (oB_5.out.kp hn6 (by omega) (fun b e => by omega))
          have oX_6 := Lib.hid (oX_5.out.kb hn6 (fun b e => by omega))
          have K6 := K5.trans hn6
          clear cE2 lE
          clear bR_5 bE_5 oA_5 oB_5 oX_5 K5 r5 hn6
          have u3 : u < 3 := u1 (by omega)
          clear u1 u2
          have hwu : IntKind.i64.wrap (1 + u) = 1 + u := IntWalk.i64_in _ (by omega)
          have cE2 := cell_of_heap bE_6 2
          have lE := heap_lt bE_6
          refine hK.out _ _ ?_ (fun hHeld2 => ?_)
          · exact cE2
          clear hK K hHeld
          have hHeld := hHeld2
          clear hHeld2
          try simp only [AP]
          refine AnyK.tw 4 rfl ?_
          try simp only [AP]
          refine AnyK.tw 5 rfl ?_
          try simp only [AP]
          refine AnyK.tw 6 rfl ?_
          try simp only [AP]
          refine AnyK.last (by kernel_rfl) ?_
          simp only [List.drop_succ_cons, List.drop_zero]
          clear hHeld
          have hX : OwnF 5 encN w6 (bo + 1) 42 (.slice (some ⟨g, 0, none⟩) ys.length d4) ys := by rw [hlq]; exact oX_6.out
          obtain ⟨-, _, ge, gc, gf⟩ := own_cellsN hX (by omega)
          cases ge
          have hj : 0 < ys.length := by omega
          obtain ⟨e0, g0⟩ : ∃ v, w6.cell? ⟨g, 0, none⟩ = some v := ⟨_, gc 0 hj 0 (by decide)⟩
          obtain ⟨e1, g1⟩ : ∃ v, w6.cell? ⟨g, 1, none⟩ = some v := ⟨_, gc 0 hj 1 (by decide)⟩
          obtain ⟨e2, g2⟩ : ∃ v, w6.cell? ⟨g, 2, none⟩ = some v := ⟨_, gc 0 hj 2 (by decide)⟩
          obtain ⟨e3, g3⟩ : ∃ v, w6.cell? ⟨g, 3, none⟩ = some v := ⟨_, gc 0 hj 3 (by decide)⟩
          obtain ⟨e4, g4⟩ : ∃ v, w6.cell? ⟨g, 4, none⟩ = some v := ⟨_, gc 0 hj 4 (by decide)⟩
          have f0 := gf 0
          have f1 := gf 1
          have f2 := gf 2
          have f3 := gf 3
          have f4 := gf 4
          have hX5 : OwnF 5 encN (((((w6.setCell ⟨g, 0, none⟩ (.int .i64 1)).setCell ⟨g, 1, none⟩ (.int .i64 5)).setCell ⟨g, 2, none⟩ (.int .i64 (1 + u))).setCell ⟨g, 3, none⟩ (.int .i64 0)).setCell ⟨g, 4, none⟩ (.int .i64 0)) (bo + 1) 42 (.slice (some ⟨g, 0, none⟩) ys.length d4) (ys.set 0 ⟨1, 5, (1 + u), 0, 0⟩) := own_set5 hX 0 hj ⟨1, 5, (1 + u), 0, 0⟩
          have gx := (hX.lt g (ownBlock_at _ _ _)).1
          have hX5h := Lib.hid hX5
          clear hX hX5 gc gf hj
          clear cE2 lE
          obtain ⟨cE0, cE1, cE2⟩ := cells3 bE_6
          have lE := heap_lt bE_6
          go_upto_region 11 with fail
          have hk7 : Kp (fun b => b = g) w6 (((((w6.setCell ⟨g, 0, none⟩ (.int .i64 1)).setCell ⟨g, 1, none⟩ (.int .i64 5)).setCell ⟨g, 2, none⟩ (.int .i64 (1 + u))).setCell ⟨g, 3, none⟩ (.int .i64 0)).setCell ⟨g, 4, none⟩ (.int .i64 0)) := ((((((Kp.refl (fun b => b = g) _).setCell (.inl rfl) _).setCell (.inl rfl) _).setCell (.inl rfl) _).setCell (.inl rfl) _).setCell (.inl rfl) _)
          have oX_7 := hX5h
          have hlq2 : (ys.set 0 ⟨1, 5, (1 + u), 0, 0⟩).length = 10 := by rw [List.length_set]; exact hlq
          rw [hlq] at oX_7
          generalize ys.set 0 ⟨1, 5, (1 + u), 0, 0⟩ = ysx at *
          generalize (((((w6.setCell ⟨g, 0, none⟩ (.int .i64 1)).setCell ⟨g, 1, none⟩ (.int .i64 5)).setCell ⟨g, 2, none⟩ (.int .i64 (1 + u))).setCell ⟨g, 3, none⟩ (.int .i64 0)).setCell ⟨g, 4, none⟩ (.int .i64 0)) = w7 at *
          clear hX5h g0 f0 g1 f1 g2 f2 g3 f3 g4 f4
          have z7 := hk7.size
          have bR_7 := hk7.bo bR_6
          have bE_7 := hk7.bo bE_6
          have oA_7 := Lib.hid (oA_6.out.kp hk7 (by omega) (fun b e => by omega))
          have oB_7 := Lib.hid (oB_6.out.kp hk7 (by omega) (fun b e => by omega))
          have K7 : One br w w7 := one_on K6 hk7 (by omega)
          have r7 := r6.kp hk7
          clear cE0 cE1 cE2 lE
          clear bR_6 bE_6 oA_6 oB_6 K6 r6 hk7
          clear oX_6
          have hX : OwnF 5 encN w7 (bo + 1) 42 (.slice (some ⟨g, 0, none⟩) ysx.length d4) ysx := by rw [hlq2]; exact oX_7.out
          obtain ⟨-, _, ge, gc, gf⟩ := own_cellsN hX (by omega)
          cases ge
          have hj : 8 < ysx.length := by omega
          obtain ⟨e0, g0⟩ : ∃ v, w7.cell? ⟨g, 40, none⟩ = some v := ⟨_, gc 8 hj 0 (by decide)⟩
          obtain ⟨e1, g1⟩ : ∃ v, w7.cell? ⟨g, 41, none⟩ = some v := ⟨_, gc 8 hj 1 (by decide)⟩
          obtain ⟨e2, g2⟩ : ∃ v, w7.cell? ⟨g, 42, none⟩ = some v := ⟨_, gc 8 hj 2 (by decide)⟩
          obtain ⟨e3, g3⟩ : ∃ v, w7.cell? ⟨g, 43, none⟩ = some v := ⟨_, gc 8 hj 3 (by decide)⟩
          obtain ⟨e4, g4⟩ : ∃ v, w7.cell? ⟨g, 44, none⟩ = some v := ⟨_, gc 8 hj 4 (by decide)⟩
          have f0 := gf 40
          have f1 := gf 41
          have f2 := gf 42
          have f3 := gf 43
          have f4 := gf 44
          have hX5 : OwnF 5 encN (((((w7.setCell ⟨g, 40, none⟩ (.int .i64 10)).setCell ⟨g, 41, none⟩ (.int .i64 5)).setCell ⟨g, 42, none⟩ (.int .i64 1)).setCell ⟨g, 43, none⟩ (.int .i64 0)).setCell ⟨g, 44, none⟩ (.int .i64 0)) (bo + 1) 42 (.slice (some ⟨g, 0, none⟩) ysx.length d4) (ysx.set 8 ⟨10, 5, 1, 0, 0⟩) := own_set5 hX 8 hj ⟨10, 5, 1, 0, 0⟩
          have gx := (hX.lt g (ownBlock_at _ _ _)).1
          have hX5h := Lib.hid hX5
          clear hX hX5 gc gf hj
          obtain ⟨cE0, cE1, cE2⟩ := cells3 bE_7
          have lE := heap_lt bE_7
          go_upto_region 12 with fail
          have hk8 : Kp (fun b => b = g) w7 (((((w7.setCell ⟨g, 40, none⟩ (.int .i64 10)).setCell ⟨g, 41, none⟩ (.int .i64 5)).setCell ⟨g, 42, none⟩ (.int .i64 1)).setCell ⟨g, 43, none⟩ (.int .i64 0)).setCell ⟨g, 44, none⟩ (.int .i64 0)) := ((((((Kp.refl (fun b => b = g) _).setCell (.inl rfl) _).setCell (.inl rfl) _).setCell (.inl rfl) _).setCell (.inl rfl) _).setCell (.inl rfl) _)
          have oX_8 := hX5h
          have hlq3 : (ysx.set 8 ⟨10, 5, 1, 0, 0⟩).length = 10 := by rw [List.length_set]; exact hlq2
          rw [hlq2] at oX_8
          generalize ysx.set 8 ⟨10, 5, 1, 0, 0⟩ = ysxx at *
          generalize (((((w7.setCell ⟨g, 40, none⟩ (.int .i64 10)).setCell ⟨g, 41, none⟩ (.int .i64 5)).setCell ⟨g, 42, none⟩ (.int .i64 1)).setCell ⟨g, 43, none⟩ (.int .i64 0)).setCell ⟨g, 44, none⟩ (.int .i64 0)) = w8 at *
          clear hX5h g0 f0 g1 f1 g2 f2 g3 f3 g4 f4
          have z8 := hk8.size
          have bR_8 := hk8.bo bR_7
          have bE_8 := hk8.bo bE_7
          have oA_8 := Lib.hid (oA_7.out.kp hk8 (by omega) (fun b e => by omega))
          have oB_8 := Lib.hid (oB_7.out.kp hk8 (by omega) (fun b e => by omega))
          have K8 : One br w w8 := one_on K7 hk8 (by omega)
          have r8 := r7.kp hk8
          clear cE0 cE1 cE2 lE
          clear bR_7 bE_7 oA_7 oB_7 K7 r7 hk8
          clear oX_7
          obtain ⟨cE0, cE1, cE2⟩ := cells3 bE_8
          have lE := heap_lt bE_8
          obtain ⟨cR0, cR1, cR2⟩ := cells3 bR_8
          have fR := frozen_of_heap bR_8
          have lR := heap_lt bR_8
          go_wp2
          have hkz := setMany_kp (w.heap.size) [.slice a1 xa.length d1, .slice a2 xb.length d2, .slice (some ⟨g, 0, none⟩) 10 d4] w8 0
          have zs := setMany_size (w.heap.size) [.slice a1 xa.length d1, .slice a2 xb.length d2, .slice (some ⟨g, 0, none⟩) 10 d4] w8 0
          have hR := setMany_row [.slice a1 xa.length d1, .slice a2 xb.length d2, .slice (some ⟨g, 0, none⟩) 10 d4] bR_8 rfl
          exact bodyPost_ret (results_cell_row rfl _ _ _ _ _ _ _ rfl hR Try.underlying26 rfl (by kernel_rfl)) rfl ⟨a1, a2, some ⟨g, 0, none⟩, d1, d2, d4, xa, xb, ysxx, _, (by rw [hlq3]), one_on K8 hkz (by omega), r8.keep hkz (fun b e => by omega), by omega, ((oA_8.out.kp hkz (by omega) (fun i e => by omega)).mono (lo' := w.heap.size) (hi' := (setMany w8 (w.heap.size) 0 [.slice a1 xa.length d1, .slice a2 xb.length d2, .slice (some ⟨g, 0, none⟩) 10 d4]).heap.size) (by omega) (by omega)), ((oB_8.out.kp hkz (by omega) (fun i e => by omega)).mono (lo' := w.heap.size) (hi' := (setMany w8 (w.heap.size) 0 [.slice a1 xa.length d1, .slice a2 xb.length d2, .slice (some ⟨g, 0, none⟩) 10 d4]).heap.size) (by omega) (by omega)), (by have t1 := oX_8.out.kb hkz (fun b e => by omega); have t2 := t1.reads.mono (lo' := w.heap.size) (hi' := (setMany w8 (w.heap.size) 0 [.slice a1 xa.length d1, .slice a2 xb.length d2, .slice (some ⟨g, 0, none⟩) 10 d4]).heap.size) (by omega) (Nat.le_refl _); rw [hlq3]; exact t2), hxa, hxb, by rw [hlq3]; decide⟩
        · have hvb : (v == 0) = false := by simpa using hv
          obtain ⟨cE0, cE1, cE2⟩ := cells3 bE_4
          have lE := heap_lt bE_4
          obtain ⟨cR0, cR1, cR2⟩ := cells3 bR_4
          have fR := frozen_of_heap bR_4
          have lR := heap_lt bR_4
          go_wp2
          have hkz := setMany_kp (w.heap.size) [.slice a1 xa.length d1, .slice a2 xb.length d2, .slice (some ⟨g, 0, none⟩) 10 d4] w4 0
          have zs := setMany_size (w.heap.size) [.slice a1 xa.length d1, .slice a2 xb.length d2, .slice (some ⟨g, 0, none⟩) 10 d4] w4 0
          have hR := setMany_row [.slice a1 xa.length d1, .slice a2 xb.length d2, .slice (some ⟨g, 0, none⟩) 10 d4] bR_4 rfl
          exact bodyPost_ret (results_cell_row rfl _ _ _ _ _ _ _ rfl hR Try.underlying26 rfl (by kernel_rfl)) rfl ⟨a1, a2, some ⟨g, 0, none⟩, d1, d2, d4, xa, xb, ys, _, (by rw [hlq]), one_on K4 hkz (by omega), r4.keep hkz (fun b e => by omega), by omega, ((oA_4.out.kp hkz (by omega) (fun i e => by omega)).mono (lo' := w.heap.size) (hi' := (setMany w4 (w.heap.size) 0 [.slice a1 xa.length d1, .slice a2 xb.length d2, .slice (some ⟨g, 0, none⟩) 10 d4]).heap.size) (by omega) (by omega)), ((oB_4.out.kp hkz (by omega) (fun i e => by omega)).mono (lo' := w.heap.size) (hi' := (setMany w4 (w.heap.size) 0 [.slice a1 xa.length d1, .slice a2 xb.length d2, .slice (some ⟨g, 0, none⟩) 10 d4]).heap.size) (by omega) (by omega)), (by have t1 := oX_4.out.kb hkz (fun b e => by omega); have t2 := t1.reads.mono (lo' := w.heap.size) (hi' := (setMany w4 (w.heap.size) 0 [.slice a1 xa.length d1, .slice a2 xb.length d2, .slice (some ⟨g, 0, none⟩) 10 d4]).heap.size) (by omega) (Nat.le_refl _); rw [hlq]; exact t2), hxa, hxb, by rw [hlq]; decide⟩
      · obtain rfl : nn = 1 := by omega
        obtain rfl : j = 0 := by have := hjn.out; omega
        clear hnn hjn hj hlt
        have hlq : ys.length = 1 := hlY.out
        obtain ⟨cE0, cE1, cE2⟩ := cells3 bE_3
        have lE := heap_lt bE_3
        obtain ⟨cR0, cR1, cR2⟩ := cells3 bR_3
        have fR := frozen_of_heap bR_3
        have lR := heap_lt bR_3
        go_wp2
        have hkz := setMany_kp (w.heap.size) [.slice a1 xa.length d1, .slice a2 xb.length d2, .slice (some ⟨g, 0, none⟩) 1 d4] w3 0
        have zs := setMany_size (w.heap.size) [.slice a1 xa.length d1, .slice a2 xb.length d2, .slice (some ⟨g, 0, none⟩) 1 d4] w3 0
        have hR := setMany_row [.slice a1 xa.length d1, .slice a2 xb.length d2, .slice (some ⟨g, 0, none⟩) 1 d4] bR_3 rfl
        exact bodyPost_ret (results_cell_row rfl _ _ _ _ _ _ _ rfl hR Try.underlying26 rfl (by kernel_rfl)) rfl ⟨a1, a2, some ⟨g, 0, none⟩, d1, d2, d4, xa, xb, ys, _, (by rw [hlq]), one_on K3 hkz (by omega), r3.keep hkz (fun b e => by omega), by omega, ((oA_3.out.kp hkz (by omega) (fun i e => by omega)).mono (lo' := w.heap.size) (hi' := (setMany w3 (w.heap.size) 0 [.slice a1 xa.length d1, .slice a2 xb.length d2, .slice (some ⟨g, 0, none⟩) 1 d4]).heap.size) (by omega) (by omega)), ((oB_3.out.kp hkz (by omega) (fun i e => by omega)).mono (lo' := w.heap.size) (hi' := (setMany w3 (w.heap.size) 0 [.slice a1 xa.length d1, .slice a2 xb.length d2, .slice (some ⟨g, 0, none⟩) 1 d4]).heap.size) (by omega) (by omega)), (by have t1 := oX_3.out.kb hkz (fun b e => by omega); have t2 := t1.reads.mono (lo' := w.heap.size) (hi' := (setMany w3 (w.heap.size) 0 [.slice a1 xa.length d1, .slice a2 xb.length d2, .slice (some ⟨g, 0, none⟩) 1 d4]).heap.size) (by omega) (Nat.le_refl _); rw [hlq]; exact t2), hxa, hxb, by rw [hlq]; decide⟩
      · obtain rfl : nn = 12 := by omega
        obtain rfl : j = 11 := by have := hjn.out; omega
        clear hnn hjn hj hlt
        have hlq : ys.length = 12 := hlY.out
        go_wp2_with fail
        refine (pick w3 br (q) _ r3 (by omega)).mono ?_
        rintro e w4 ⟨v, rfl, v0, v1, v2, hn4, r4⟩
        have z4 := hn4.size
        have bR_4 := hn4.bo bR_3
        have bE_4 := hn4.bo bE_3
        have oA_4 := Lib.hid (oA_3.out.kp hn4 (by omega) (fun b e => by omega))
        have oB_4 := Lib.hid (oB_3.out.kp hn4 (by omega) (fun b e => by omega))
        have oX_4 := Lib.hid (oX_3.out.kb hn4 (fun b e => by omega))
        have K4 := K3.trans hn4
        clear bR_3 bE_3 oA_3 oB_3 oX_3 K3 r3 hn4
        clear v1 v2
        by_cases hv : v = 0
        · subst hv
          obtain ⟨cE0, cE1, cE2⟩ := cells3 bE_4
          have fE := frozen_of_heap bE_4
          have lE := heap_lt bE_4
          go_wp2_with fail
          refine wp_region_tail (k := 7) (S := fun w' => w'.cell? ⟨bo, 2, none⟩ = some (.slice (some ⟨g, 0, none⟩) 12 d4)) (by kernel_rfl) ?_ (fun hHeld => ?_)
          · exact cE2
          clear cE0 cE1 cE2 fE lE
          have hn5 : New w4 w4.drew := (Kp.refl _ _).drew
          generalize w4.drew = w5 at *
          have z5 := hn5.size
          have bR_5 := hn5.bk bR_4
          have bE_5 := hn5.bk bE_4
          have oA_5 := Lib.hid (oA_4.out.new (by omega) hn5)
          have oB_5 := Lib.hid (oB_4.out.new (by omega) hn5)
          have oX_5 := Lib.hid (oX_4.out.new hn5)
          have K5 := K4.nw hn5
          have r5 := r4.nw hn5
          clear bR_4 bE_4 oA_4 oB_4 oX_4 K4 r4 hn5
          have cE2 := cell_of_heap bE_5 2
          have lE := heap_lt bE_5
          refine AnyK.tw 0 rfl ?_
          try simp only [AP]
          refine AnyK.tk 1 rfl ?_
          try simp only [AP]
          refine AnyK.tw 2 rfl ?_
          try simp only [AP]
          refine AnyK.step (i := 3) (by kernel_rfl) rfl (fun K hK => ?_)
          go_simp
          refine (pick w5 br (q + 1) _ r5 (by omega)).mono ?_
          rintro e w6 ⟨u, rfl, u0, u1, u2, hn6, r6⟩
          have z6 := hn6.size
          have bR_6 := hn6.bo bR_5
          have bE_6 := hn6.bo bE_5
          have oA_6 := Lib.hid (oA_5.out.kp hn6 (by omega) (fun b e => by omega))
          have oB_6 := Lib.hid (oB_5.out.kp hn6 (by omega) (fun b e => by omega))
          have oX_6 := Lib.hid (oX_5.out.kb hn6 (fun b e => by omega))
          have K6 := K5.trans hn6
          clear cE2 lE
          clear bR_5 bE_5 oA_5 oB_5 oX_5 K5 r5 hn6
          have u3 : u < 3 := u1 (by omega)
          clear u1 u2
          have hwu : IntKind.i64.wrap (1 + u) = 1 + u := IntWalk.i64_in _ (by omega)
          have cE2 := cell_of_heap bE_6 2
          have lE := heap_lt bE_6
          refine hK.out _ _ ?_ (fun hHeld2 => ?_)
          · exact cE2
          clear hK K hHeld
          have hHeld := hHeld2
          clear hHeld2
          try simp only [AP]
          refine AnyK.tw 4 rfl ?_
          try simp only [AP]
          refine AnyK.tw 5 rfl ?_
          try simp only [AP]
          refine AnyK.tw 6 rfl ?_
          try simp only [AP]
          refine AnyK.last (by kernel_rfl) ?_
          simp only [List.drop_succ_cons, List.drop_zero]
          clear hHeld
          have hX : OwnF 5 encN w6 (bo + 1) 42 (.slice (some ⟨g, 0, none⟩) ys.length d4) ys := by rw [hlq]; exact oX_6.out
          obtain ⟨-, _, ge, gc, gf⟩ := own_cellsN hX (by omega)
          cases ge
          have hj : 0 < ys.length := by omega
          obtain ⟨e0, g0⟩ : ∃ v, w6.cell? ⟨g, 0, none⟩ = some v := ⟨_, gc 0 hj 0 (by decide)⟩
          obtain ⟨e1, g1⟩ : ∃ v, w6.cell? ⟨g, 1, none⟩ = some v := ⟨_, gc 0 hj 1 (by decide)⟩
          obtain ⟨e2, g2⟩ : ∃ v, w6.cell? ⟨g, 2, none⟩ = some v := ⟨_, gc 0 hj 2 (by decide)⟩
          obtain ⟨e3, g3⟩ : ∃ v, w6.cell? ⟨g, 3, none⟩ = some v := ⟨_, gc 0 hj 3 (by decide)⟩
          obtain ⟨e4, g4⟩ : ∃ v, w6.cell? ⟨g, 4, none⟩ = some v := ⟨_, gc 0 hj 4 (by decide)⟩
          have f0 := gf 0
          have f1 := gf 1
          have f2 := gf 2
          have f3 := gf 3
          have f4 := gf 4
          have hX5 : OwnF 5 encN (((((w6.setCell ⟨g, 0, none⟩ (.int .i64 1)).setCell ⟨g, 1, none⟩ (.int .i64 5)).setCell ⟨g, 2, none⟩ (.int .i64 (1 + u))).setCell ⟨g, 3, none⟩ (.int .i64 0)).setCell ⟨g, 4, none⟩ (.int .i64 0)) (bo + 1) 42 (.slice (some ⟨g, 0, none⟩) ys.length d4) (ys.set 0 ⟨1, 5, (1 + u), 0, 0⟩) := own_set5 hX 0 hj ⟨1, 5, (1 + u), 0, 0⟩
          have gx := (hX.lt g (ownBlock_at _ _ _)).1
          have hX5h := Lib.hid hX5
          clear hX hX5 gc gf hj
          clear cE2 lE
          obtain ⟨cE0, cE1, cE2⟩ := cells3 bE_6
          have lE := heap_lt bE_6
          go_upto_region 11 with fail
          have hk7 : Kp (fun b => b = g) w6 (((((w6.setCell ⟨g, 0, none⟩ (.int .i64 1)).setCell ⟨g, 1, none⟩ (.int .i64 5)).setCell ⟨g, 2, none⟩ (.int .i64 (1 + u))).setCell ⟨g, 3, none⟩ (.int .i64 0)).setCell ⟨g, 4, none⟩ (.int .i64 0)) := ((((((Kp.refl (fun b => b = g) _).setCell (.inl rfl) _).setCell (.inl rfl) _).setCell (.inl rfl) _).setCell (.inl rfl) _).setCell (.inl rfl) _)
          have oX_7 := hX5h
          have hlq2 : (ys.set 0 ⟨1, 5, (1 + u), 0, 0⟩).length = 12 := by rw [List.length_set]; exact hlq
          rw [hlq] at oX_7
          generalize ys.set 0 ⟨1, 5, (1 + u), 0, 0⟩ = ysx at *
          generalize (((((w6.setCell ⟨g, 0, none⟩ (.int .i64 1)).setCell ⟨g, 1, none⟩ (.int .i64 5)).setCell ⟨g, 2, none⟩ (.int .i64 (1 + u))).setCell ⟨g, 3, none⟩ (.int .i64 0)).setCell ⟨g, 4, none⟩ (.int .i64 0)) = w7 at *
          clear hX5h g0 f0 g1 f1 g2 f2 g3 f3 g4 f4
          have z7 := hk7.size
          have bR_7 := hk7.bo bR_6
          have bE_7 := hk7.bo bE_6
          have oA_7 := Lib.hid (oA_6.out.kp hk7 (by omega) (fun b e => by omega))
          have oB_7 := Lib.hid (oB_6.out.kp hk7 (by omega) (fun b e => by omega))
          have K7 : One br w w7 := one_on K6 hk7 (by omega)
          have r7 := r6.kp hk7
          clear cE0 cE1 cE2 lE
          clear bR_6 bE_6 oA_6 oB_6 K6 r6 hk7
          clear oX_6
          have hX : OwnF 5 encN w7 (bo + 1) 42 (.slice (some ⟨g, 0, none⟩) ysx.length d4) ysx := by rw [hlq2]; exact oX_7.out
          obtain ⟨-, _, ge, gc, gf⟩ := own_cellsN hX (by omega)
          cases ge
          have hj : 10 < ysx.length := by omega
          obtain ⟨e0, g0⟩ : ∃ v, w7.cell? ⟨g, 50, none⟩ = some v := ⟨_, gc 10 hj 0 (by decide)⟩
          obtain ⟨e1, g1⟩ : ∃ v, w7.cell? ⟨g, 51, none⟩ = some v := ⟨_, gc 10 hj 1 (by decide)⟩
          obtain ⟨e2, g2⟩ : ∃ v, w7.cell? ⟨g, 52, none⟩ = some v := ⟨_, gc 10 hj 2 (by decide)⟩
          obtain ⟨e3, g3⟩ : ∃ v, w7.cell? ⟨g, 53, none⟩ = some v := ⟨_, gc 10 hj 3 (by decide)⟩
          obtain ⟨e4, g4⟩ : ∃ v, w7.cell? ⟨g, 54, none⟩ = some v := ⟨_, gc 10 hj 4 (by decide)⟩
          have f0 := gf 50
          have f1 := gf 51
          have f2 := gf 52
          have f3 := gf 53
          have f4 := gf 54
          have hX5 : OwnF 5 encN (((((w7.setCell ⟨g, 50, none⟩ (.int .i64 10)).setCell ⟨g, 51, none⟩ (.int .i64 5)).setCell ⟨g, 52, none⟩ (.int .i64 1)).setCell ⟨g, 53, none⟩ (.int .i64 0)).setCell ⟨g, 54, none⟩ (.int .i64 0)) (bo + 1) 42 (.slice (some ⟨g, 0, none⟩) ysx.length d4) (ysx.set 10 ⟨10, 5, 1, 0, 0⟩) := own_set5 hX 10 hj ⟨10, 5, 1, 0, 0⟩
          have gx := (hX.lt g (ownBlock_at _ _ _)).1
          have hX5h := Lib.hid hX5
          clear hX hX5 gc gf hj
          obtain ⟨cE0, cE1, cE2⟩ := cells3 bE_7
          have lE := heap_lt bE_7
          go_upto_region 12 with fail
          have hk8 : Kp (fun b => b = g) w7 (((((w7.setCell ⟨g, 50, none⟩ (.int .i64 10)).setCell ⟨g, 51, none⟩ (.int .i64 5)).setCell ⟨g, 52, none⟩ (.int .i64 1)).setCell ⟨g, 53, none⟩ (.int .i64 0)).setCell ⟨g, 54, none⟩ (.int .i64 0)) := ((((((Kp.refl (fun b => b = g) _).setCell (.inl rfl) _).setCell (.inl rfl) _).setCell (.inl rfl) _).setCell (.inl rfl) _).setCell (.inl rfl) _)
          have oX_8 := hX5h
          have hlq3 : (ysx.set 10 ⟨10, 5, 1, 0, 0⟩).length = 12 := by rw [List.length_set]; exact hlq2
          rw [hlq2] at oX_8
          generalize ysx.set 10 ⟨10, 5, 1, 0, 0⟩ = ysxx at *
          generalize (((((w7.setCell ⟨g, 50, none⟩ (.int .i64 10)).setCell ⟨g, 51, none⟩ (.int .i64 5)).setCell ⟨g, 52, none⟩ (.int .i64 1)).setCell ⟨g, 53, none⟩ (.int .i64 0)).setCell ⟨g, 54, none⟩ (.int .i64 0)) = w8 at *
          clear hX5h g0 f0 g1 f1 g2 f2 g3 f3 g4 f4
          have z8 := hk8.size
          have bR_8 := hk8.bo bR_7
          have bE_8 := hk8.bo bE_7
          have oA_8 := Lib.hid (oA_7.out.kp hk8 (by omega) (fun b e => by omega))
          have oB_8 := Lib.hid (oB_7.out.kp hk8 (by omega) (fun b e => by omega))
          have K8 : One br w w8 := one_on K7 hk8 (by omega)
          have r8 := r7.kp hk8
          clear cE0 cE1 cE2 lE
          clear bR_7 bE_7 oA_7 oB_7 K7 r7 hk8
          clear oX_7
          obtain ⟨cE0, cE1, cE2⟩ := cells3 bE_8
          have lE := heap_lt bE_8
          obtain ⟨cR0, cR1, cR2⟩ := cells3 bR_8
          have fR := frozen_of_heap bR_8
          have lR := heap_lt bR_8
          go_wp2
          have hkz := setMany_kp (w.heap.size) [.slice a1 xa.length d1, .slice a2 xb.length d2, .slice (some ⟨g, 0, none⟩) 12 d4] w8 0
          have zs := setMany_size (w.heap.size) [.slice a1 xa.length d1, .slice a2 xb.length d2, .slice (some ⟨g, 0, none⟩) 12 d4] w8 0
          have hR := setMany_row [.slice a1 xa.length d1, .slice a2 xb.length d2, .slice (some ⟨g, 0, none⟩) 12 d4] bR_8 rfl
          exact bodyPost_ret (results_cell_row rfl _ _ _ _ _ _ _ rfl hR Try.underlying26 rfl (by kernel_rfl)) rfl ⟨a1, a2, some ⟨g, 0, none⟩, d1, d2, d4, xa, xb, ysxx, _, (by rw [hlq3]), one_on K8 hkz (by omega), r8.keep hkz (fun b e => by omega), by omega, ((oA_8.out.kp hkz (by omega) (fun i e => by omega)).mono (lo' := w.heap.size) (hi' := (setMany w8 (w.heap.size) 0 [.slice a1 xa.length d1, .slice a2 xb.length d2, .slice (some ⟨g, 0, none⟩) 12 d4]).heap.size) (by omega) (by omega)), ((oB_8.out.kp hkz (by omega) (fun i e => by omega)).mono (lo' := w.heap.size) (hi' := (setMany w8 (w.heap.size) 0 [.slice a1 xa.length d1, .slice a2 xb.length d2, .slice (some ⟨g, 0, none⟩) 12 d4]).heap.size) (by omega) (by omega)), (by have t1 := oX_8.out.kb hkz (fun b e => by omega); have t2 := t1.reads.mono (lo' := w.heap.size) (hi' := (setMany w8 (w.heap.size) 0 [.slice a1 xa.length d1, .slice a2 xb.length d2, .slice (some ⟨g, 0, none⟩) 12 d4]).heap.size) (by omega) (Nat.le_refl _); rw [hlq3]; exact t2), hxa, hxb, by rw [hlq3]; decide⟩
        · have hvb : (v == 0) = false := by simpa using hv
          obtain ⟨cE0, cE1, cE2⟩ := cells3 bE_4
          have lE := heap_lt bE_4
          obtain ⟨cR0, cR1, cR2⟩ := cells3 bR_4
          have fR := frozen_of_heap bR_4
          have lR := heap_lt bR_4
          go_wp2
          have hkz := setMany_kp (w.heap.size) [.slice a1 xa.length d1, .slice a2 xb.length d2, .slice (some ⟨g, 0, none⟩) 12 d4] w4 0
          have zs := setMany_size (w.heap.size) [.slice a1 xa.length d1, .slice a2 xb.length d2, .slice (some ⟨g, 0, none⟩) 12 d4] w4 0
          have hR := setMany_row [.slice a1 xa.length d1, .slice a2 xb.length d2, .slice (some ⟨g, 0, none⟩) 12 d4] bR_4 rfl
          exact bodyPost_ret (results_cell_row rfl _ _ _ _ _ _ _ rfl hR Try.underlying26 rfl (by kernel_rfl)) rfl ⟨a1, a2, some ⟨g, 0, none⟩, d1, d2, d4, xa, xb, ys, _, (by rw [hlq]), one_on K4 hkz (by omega), r4.keep hkz (fun b e => by omega), by omega, ((oA_4.out.kp hkz (by omega) (fun i e => by omega)).mono (lo' := w.heap.size) (hi' := (setMany w4 (w.heap.size) 0 [.slice a1 xa.length d1, .slice a2 xb.length d2, .slice (some ⟨g, 0, none⟩) 12 d4]).heap.size) (by omega) (by omega)), ((oB_4.out.kp hkz (by omega) (fun i e => by omega)).mono (lo' := w.heap.size) (hi' := (setMany w4 (w.heap.size) 0 [.slice a1 xa.length d1, .slice a2 xb.length d2, .slice (some ⟨g, 0, none⟩) 12 d4]).heap.size) (by omega) (by omega)), (by have t1 := oX_4.out.kb hkz (fun b e => by omega); have t2 := t1.reads.mono (lo' := w.heap.size) (hi' := (setMany w4 (w.heap.size) 0 [.slice a1 xa.length d1, .slice a2 xb.length d2, .slice (some ⟨g, 0, none⟩) 12 d4]).heap.size) (by omega) (Nat.le_refl _); rw [hlq]; exact t2), hxa, hxb, by rw [hlq]; decide⟩
end Go.Proofs.Ytbicpkmlionldaa.DrawD
