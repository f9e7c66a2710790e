/- Draws of changed programs: l2Mutate. Conditions: bounds on the program and on the picks so far. -/
import Derived.Test.YtckikiaockkmbaaUCopyC
import Derived.Test.YtckikiaockkmbaaUDrawL1
import Derived.Test.YtckikiaockkmbaaUP1
namespace Go.Proofs.Ytckikiaockkmbaa.Mut
open Go.RowKit Kit Draw DrawX MarkC DrawL1
set_option linter.unusedVariables false
theorem own_cells {w : World} {base n d : Nat} {a : Option Addr} {T : TypeId} {xs : List Int} (h : OwnF 1 encI w base T (.slice a n d) xs) (h0 : 0 < xs.length) :
    n = xs.length ∧ ∃ b, a = some ⟨b, 0, none⟩ ∧ (∀ i (h : i < xs.length), w.cell? ⟨b, i, none⟩ = some (.int .i64 xs[i])) ∧ ∀ i, w.frozen? ⟨b, i, none⟩ = false := by
  rcases h.form with ⟨e, _⟩ | ⟨b, cap, cs, e, hb, _, _, hh, hn, hc⟩
  · subst e; exact absurd h0 (Nat.lt_irrefl _)
  · cases e
    refine ⟨rfl, b, rfl, fun i hi => ?_, fun i => frozen_of_heap hh i⟩
    have := hc i hi 0 (by omega)
    rw [Nat.mul_one, Nat.add_zero] at this
    exact (cell_of_heap hh i).trans this
theorem own_set1 {w : World} {base b cap : Nat} {T : TypeId} {xs : List Int} (h : OwnF 1 encI w base T (.slice (some ⟨b, 0, none⟩) xs.length cap) xs) (j : Nat) (hj : j < xs.length) (y : Int) : OwnF 1 encI (w.setCell ⟨b, j, none⟩ (.int .i64 y)) base T (.slice (some ⟨b, 0, none⟩) xs.length cap) (xs.set j y) := by
  rcases h.form with ⟨e, _⟩ | ⟨b', cap', cs, e, hb1, hb2, hb3, hh, hs, hc⟩
  · subst e; exact absurd hj (Nat.not_lt_zero _)
  · cases e
    have := OwnF.mk' (enc := encI) (n := 1) (xs := xs.set j y) (base := base) (setCell_heap (o := j) hh (.int .i64 y)) hb1 (by simpa using hb2) hb3 (by simpa using hs) (fun i hi q hq => by
      have hi2 : i < xs.length := by simpa using hi
      obtain rfl : q = 0 := by omega
      rw [Array.getElem?_setIfInBounds]
      by_cases e : j = i
      · subst e
        have hlt : j < cs.size := by omega
        simp [hlt]
      · rw [List.getElem_set_ne e, if_neg (by omega)]; exact hc i hi2 0 hq)
    rw [List.length_set] at this
    exact this
theorem _root_.Go.Proofs.Ytckikiaockkmbaa.St.size_of {s t : St} (h1 : s.index.kids = t.index.kids) (h2 : s.value.kids = t.value.kids) (h3 : s.body = t.body) (h4 : s.els = t.els) : s.size = t.size := by rw [St.size_eq, St.size_eq, h1, h2, h3, h4]
theorem sizes_set : ∀ (l : List St) (j : Nat) (h : j < l.length) (y : St), y.size = l[j].size → St.sizes (l.set j y) = St.sizes l
  | s :: l, 0, _, y, e => by simp only [List.getElem_cons_zero] at e; simp [St.sizes, e]
  | s :: l, j + 1, h, y, e => by
    simp only [List.getElem_cons_succ] at e
    simp [St.sizes, sizes_set l j (by simpa using h) y e]
/-- y is s with its cell t set to u -/
inductive SetAt (s : St) (u : Int) : Nat → St → Prop
  | k : SetAt s u 0 (.node u s.target (.node s.index.kind s.index.val s.index.kids) (.node s.value.kind s.value.val s.value.kids) s.count s.body s.els)
  | t : SetAt s u 1 (.node s.kind u (.node s.index.kind s.index.val s.index.kids) (.node s.value.kind s.value.val s.value.kids) s.count s.body s.els)
  | v : SetAt s u 6 (.node s.kind s.target (.node s.index.kind s.index.val s.index.kids) (.node s.value.kind u s.value.kids) s.count s.body s.els)
  | c : SetAt s u 8 (.node s.kind s.target (.node s.index.kind s.index.val s.index.kids) (.node s.value.kind s.value.val s.value.kids) u s.body s.els)
theorem SR_row {w : World} {lo hi n d : Nat} {a : Option Addr} {l : List St} (h : CopyC.SR w lo hi (.slice a n d) l) (j : Nat) (hj : j < l.length) : ∃ (b cap : Nat) (x : RS), Value.slice a n d = .slice (some ⟨b, 0, none⟩) l.length cap ∧ lo ≤ b ∧ b < hi ∧
    (∀ t, t < 11 → w.cell? ⟨b, j * 11 + t, none⟩ = some (encRS x t)) ∧ (∀ o, w.frozen? ⟨b, o, none⟩ = false) ∧ ∀ t, t < 11 → ∀ (u : Int) (y : St), y.size = l[j].size → SetAt l[j] u t y → CopyC.SR (w.setCell ⟨b, j * 11 + t, none⟩ (.int .i64 u)) lo hi (.slice a n d) (l.set j y) ∧ St.sizes (l.set j y) ≤ St.sizes l := by
  obtain ⟨h1, h0, w0, h2, h3, h4⟩ := h
  obtain ⟨b, cap, x, p, q, e, b1, b2, p1, q1, b3, hM, hc, hf, hs⟩ := RowG.row h2 j hj
  have hb : w.heap[b]? = w0.heap[b]? := h4 b b1 (by omega)
  refine ⟨b, cap, x, e, b1, by omega, fun t ht => (World.cell?_of_block (w := w0) hb).trans (hc t ht), fun o => (World.frozen?_of_block (w := w0) hb).trans (hf o), fun t ht u y hy hS => ⟨⟨by simpa using h1, h0, w0.setCell ⟨b, j * 11 + t, none⟩ (.int .i64 u), ?_, by simpa using h3, fun k k1 k2 => ?_⟩, by rw [sizes_set l j hj y hy]; exact Nat.le_refl _⟩⟩
  · cases hS with
    | k => exact hs 0 (by decide) { x with k := u } _ _ (fun q hq => by match q, hq with | 0, _ => rfl | 1, _ => rfl | 2, _ => rfl | 3, _ => rfl | 4, _ => rfl | 5, _ => rfl | 6, _ => rfl | 7, _ => rfl | 8, _ => rfl | 9, _ => rfl | 10, _ => rfl) ⟨rfl, hM.t, hM.ik, hM.iv, hM.i, hM.vk, hM.vv, hM.v, hM.c, hM.b, hM.e⟩
    | t => exact hs 1 (by decide) { x with t := u } _ _ (fun q hq => by match q, hq with | 0, _ => rfl | 1, _ => rfl | 2, _ => rfl | 3, _ => rfl | 4, _ => rfl | 5, _ => rfl | 6, _ => rfl | 7, _ => rfl | 8, _ => rfl | 9, _ => rfl | 10, _ => rfl) ⟨hM.k, rfl, hM.ik, hM.iv, hM.i, hM.vk, hM.vv, hM.v, hM.c, hM.b, hM.e⟩
    | v => exact hs 6 (by decide) { x with vv := u } _ _ (fun q hq => by match q, hq with | 0, _ => rfl | 1, _ => rfl | 2, _ => rfl | 3, _ => rfl | 4, _ => rfl | 5, _ => rfl | 6, _ => rfl | 7, _ => rfl | 8, _ => rfl | 9, _ => rfl | 10, _ => rfl) ⟨hM.k, hM.t, hM.ik, hM.iv, hM.i, hM.vk, rfl, hM.v, hM.c, hM.b, hM.e⟩
    | c => exact hs 8 (by decide) { x with c := u } _ _ (fun q hq => by match q, hq with | 0, _ => rfl | 1, _ => rfl | 2, _ => rfl | 3, _ => rfl | 4, _ => rfl | 5, _ => rfl | 6, _ => rfl | 7, _ => rfl | 8, _ => rfl | 9, _ => rfl | 10, _ => rfl) ⟨hM.k, hM.t, hM.ik, hM.iv, hM.i, hM.vk, hM.vv, hM.v, rfl, hM.b, hM.e⟩
  · by_cases e2 : k = b
    · subst e2
      simp only [World.setCell, Array.getElem?_modify, hb]
    · rw [Below.heap_setCell _ _ _ _ e2, Below.heap_setCell _ _ _ _ e2]; exact h4 k k1 k2
/-- the length that stands in the first cell of a variable -/
def lenAt (w : World) (b : Nat) : Nat := match w.cell? ⟨b, 0, none⟩ with | some (.slice _ n _) => n | _ => 0
theorem lenAt_of {w : World} {b : Nat} {a : Option Addr} {n d : Nat} {x y : Value} {T : TypeId} (h : w.heap[b]? = some (.cells #[.slice a n d, x, y] T (0, 0))) : lenAt w b = n := by
  unfold lenAt; rw [cell_of_heap h 0]; rfl
/-- a changed program, drawn by at most 5 picks -/
def GotM (w : World) (br p : Nat) (xa xb : List Int) (l : List St) (e : Ending) (w' : World) : Prop := ∃ (va vb vc : Value) (ya yb : List Int) (m : List St) (q : Nat), e = .returned (.agg #[va, vb, vc]) ∧ One br w w' ∧ Rd w' br q ∧ q ≤ p + 5 ∧
  IntsR w' w.heap.size w'.heap.size va ya ∧ IntsR w' w.heap.size w'.heap.size vb yb ∧ StsR w' w.heap.size w'.heap.size vc m ∧ ya.length ≤ xa.length + 13 ∧ yb.length ≤ xb.length ∧ St.sizes m ≤ St.sizes l
set_option maxHeartbeats 16000000 in
set_option maxRecDepth 100000 in
theorem l2Mutate (w : World) (br p lo hi : Nat) (a1 a2 a3 : Option Addr) (d1 d2 d3 : Nat) (xa xb : List Int) (l : List St) (h : Rd w br p) (sa : IntsR w lo hi (.slice a1 xa.length d1) xa) (sb : IntsR w lo hi (.slice a2 xb.length d2) xb) (sc : StsR w lo hi (.slice a3 l.length d3) l) (hh : hi ≤ w.heap.size) (hxa : xa.length ≤ 1000) (hxb : xb.length ≤ 1000) (hx : St.sizes l ≤ 1048576) (hll : l.length ≤ 1048576) (hp : p + 20 < 1099511627776) :
    Calls Try.prog 104 #[.pointer (some ⟨br, 0, none⟩), .agg #[.slice a1 xa.length d1, .slice a2 xb.length d2, .slice a3 l.length d3]] w (GotM w br p xa xb l) := by
  have hbl := h.lt
  have N0 : New w ((w.alloc (.cells #[.slice a1 xa.length d1, .slice a2 xb.length d2, .slice a3 l.length d3] 37)).alloc (.cells #[.slice none 0 0, .slice none 0 0, .slice none 0 0] 37)) := ((Kp.refl _ _).alloc _).alloc _
  have bP_0 : ((w.alloc (.cells #[.slice a1 xa.length d1, .slice a2 xb.length d2, .slice a3 l.length d3] 37)).alloc (.cells #[.slice none 0 0, .slice none 0 0, .slice none 0 0] 37)).heap[w.heap.size]? = some (.cells #[.slice a1 xa.length d1, .slice a2 xb.length d2, .slice a3 l.length d3] 37) := heap_old (alloc_heap _ _)
  have bR_0 : ((w.alloc (.cells #[.slice a1 xa.length d1, .slice a2 xb.length d2, .slice a3 l.length d3] 37)).alloc (.cells #[.slice none 0 0, .slice none 0 0, .slice none 0 0] 37)).heap[w.heap.size + 1]? = some (.cells #[.slice none 0 0, .slice none 0 0, .slice none 0 0] 37) := heap_at (by simp)
  have z0 : w.heap.size + 1 < ((w.alloc (.cells #[.slice a1 xa.length d1, .slice a2 xb.length d2, .slice a3 l.length d3] 37)).alloc (.cells #[.slice none 0 0, .slice none 0 0, .slice none 0 0] 37)).heap.size := by simp
  have r0 := h.nw N0
  have K0 : One br w ((w.alloc (.cells #[.slice a1 xa.length d1, .slice a2 xb.length d2, .slice a3 l.length d3] 37)).alloc (.cells #[.slice none 0 0, .slice none 0 0, .slice none 0 0] 37)) := N0.mono (fun _ _ f => f.elim)
  have sa0 := Lib.hid (sa.new hh N0)
  have sb0 := Lib.hid (sb.new hh N0)
  have sc0 := Lib.hid (sc.new hh N0)
  clear h sa sb sc
  go_enter Try.func104, Try.ntmps104
  go_upto_region 1 with fail
  generalize ((w.alloc (.cells #[.slice a1 xa.length d1, .slice a2 xb.length d2, .slice a3 l.length d3] 37)).alloc (.cells #[.slice none 0 0, .slice none 0 0, .slice none 0 0] 37)) = w0 at *
  obtain ⟨cP0, cP1, cP2⟩ := cells3 bP_0
  have lP := heap_lt bP_0
  go_wp2_with fail
  refine (CopyC.l2Copy w0 lo hi _ _ _ _ _ _ xa xb l sa0.out sb0.out sc0.out (by omega) (by omega) (by omega) (by omega)).mono ?_
  rintro e w1 ⟨g1, g2, g3, t1, t2, t3, rfl, hn1, l1, h1, l2, h2, l3, h3, hA, hB, hX, u1, u2, u3, u4, u5, u6, u7, u8, u9, u10, u11, u12⟩
  clear sa0 sb0 sc0 N0
  have z1 := hn1.size
  have bP_1 := hn1.bk bP_0
  have bR_1 := hn1.bk bR_0
  have K1 := K0.nw hn1
  have r1 := r0.nw hn1
  clear cP0 cP1 cP2 lP
  clear bP_0 bR_0 K0 r0 hn1
  clear bP_1
  have oA_1 := Lib.hid hA
  have oB_1 := Lib.hid hB
  have oX_1 := Lib.hid hX
  clear hA hB hX
  have hn2 : New w1 (w1.alloc (.cells #[.slice g1 xa.length t1, .slice g2 xb.length t2, .slice g3 l.length t3] 37)) := (Kp.refl _ _).alloc _
  have bE_2 := alloc_heap w1 (.cells #[.slice g1 xa.length t1, .slice g2 xb.length t2, .slice g3 l.length t3] 37)
  have y2 : w1.heap.size < (w1.alloc (.cells #[.slice g1 xa.length t1, .slice g2 xb.length t2, .slice g3 l.length t3] 37)).heap.size := lt_alloc _ _
  go_upto_region 2 with fail
  generalize hbe : w1.heap.size = be at bE_2 y2 ⊢
  generalize w1.alloc (.cells #[.slice g1 xa.length t1, .slice g2 xb.length t2, .slice g3 l.length t3] 37) = w2 at *
  have z2 := hn2.size
  have bR_2 := hn2.bk bR_1
  have oA_2 := Lib.hid (oA_1.out.new (by omega) hn2)
  have oB_2 := Lib.hid (oB_1.out.new (by omega) hn2)
  have oX_2 := Lib.hid (oX_1.out.new hn2)
  have K2 := K1.nw hn2
  have r2 := r1.nw hn2
  clear bR_1 oA_1 oB_1 oX_1 K1 r1 hn2
  obtain ⟨cE0, cE1, cE2⟩ := cells3 bE_2
  have lE := heap_lt bE_2
  go_wp2_with fail
  refine (pick w2 br (p) _ r2 (by omega)).mono ?_
  rintro e w3 ⟨u, rfl, u0, u1, u2, hn3, r3⟩
  have z3 := hn3.size
  have bR_3 := hn3.bo bR_2
  have bE_3 := hn3.bo bE_2
  have oA_3 := Lib.hid (oA_2.out.kp hn3 (fun b e => by omega))
  have oB_3 := Lib.hid (oB_2.out.kp hn3 (fun b e => by omega))
  have oX_3 := Lib.hid (oX_2.out.kp hn3 (fun b e => by omega))
  have K3 := K2.trans hn3
  clear cE0 cE1 cE2 lE
  clear bR_2 bE_2 oA_2 oB_2 oX_2 K2 r2 hn3
  by_cases hu0 : u = 0
  · subst hu0
    by_cases hx0 : xa.length = 0
    · have hxl : decide (0 < xa.length) = false := by simp [hx0]
      have hxm : decide ((0 : Int) < (xa.length : Int)) = false := by simp [hx0]
      clear hx0
      obtain ⟨cE0, cE1, cE2⟩ := cells3 bE_3
      have lE := heap_lt bE_3
      obtain ⟨cR0, cR1, cR2⟩ := cells3 bR_3
      have fR := frozen_of_heap bR_3
      have lR := heap_lt bR_3
      go_wp2
      have hkz := setMany_kp (w.heap.size + 1) [.slice g1 xa.length t1, .slice g2 xb.length t2, .slice g3 l.length t3] w3 0
      have zs := setMany_size (w.heap.size + 1) [.slice g1 xa.length t1, .slice g2 xb.length t2, .slice g3 l.length t3] w3 0
      have hR := setMany_row [.slice g1 xa.length t1, .slice g2 xb.length t2, .slice g3 l.length t3] bR_3 rfl
      exact bodyPost_ret (results_cell_row rfl _ _ _ _ _ _ _ rfl hR Try.underlying37 rfl (by kernel_rfl)) rfl ⟨_, _, _, xa, xb, l, _, rfl, one_on K3 hkz (by omega), r3.keep hkz (fun b e => by omega), by omega, ((oA_3.out.kp hkz (fun b e => by omega)).reads.mono (lo' := w.heap.size) (hi' := (setMany w3 (w.heap.size + 1) 0 [.slice g1 xa.length t1, .slice g2 xb.length t2, .slice g3 l.length t3]).heap.size) (by omega) (by omega)), ((oB_3.out.kp hkz (fun b e => by omega)).reads.mono (lo' := w.heap.size) (hi' := (setMany w3 (w.heap.size + 1) 0 [.slice g1 xa.length t1, .slice g2 xb.length t2, .slice g3 l.length t3]).heap.size) (by omega) (by omega)), ((oX_3.out.kp hkz (fun b e => by omega)).reads.mono (lo' := w.heap.size) (hi' := (setMany w3 (w.heap.size + 1) 0 [.slice g1 xa.length t1, .slice g2 xb.length t2, .slice g3 l.length t3]).heap.size) (by omega) (by omega)), by omega, Nat.le_refl _, Nat.le_refl _⟩
    have hxl : 0 < xa.length := by omega
    obtain ⟨-, g, ge, gc0, gf0⟩ := own_cells oA_3.out.own hxl
    cases ge
    have hga := (oA_3.out.own.lt g (CopyC.ownBlock_at _ _ _)).1
    have hgt := oA_3.out.top g (CopyC.ownBlock_at _ _ _)
    clear gc0 gf0 hx0
    obtain ⟨cE0, cE1, cE2⟩ := cells3 bE_3
    have fE := frozen_of_heap bE_3
    have lE := heap_lt bE_3
    go_wp2_with fail
    refine wp_region_tail (k := 5) (S := fun w' => w'.cell? ⟨be, 0, none⟩ = some (.slice (some ⟨g, 0, none⟩) xa.length t1)) (by kernel_rfl) ?_ (fun hHeld => ?_)
    · exact cE0
    clear cE0 cE1 cE2 fE lE
    have hn4 : New w3 w3.drew := (Kp.refl _ _).drew
    generalize w3.drew = w4 at *
    have z4 := hn4.size
    have bR_4 := hn4.bk bR_3
    have bE_4 := hn4.bk bE_3
    have oA_4 := Lib.hid (oA_3.out.new (by omega) hn4)
    have oB_4 := Lib.hid (oB_3.out.new (by omega) hn4)
    have oX_4 := Lib.hid (oX_3.out.new hn4)
    have K4 := K3.nw hn4
    have r4 := r3.nw hn4
    clear bR_3 bE_3 oA_3 oB_3 oX_3 K3 r3 hn4
    have cE0 := cell_of_heap bE_4 0
    have lE := heap_lt bE_4
    refine AnyK.tw 0 rfl ?_
    try simp only [AP]
    refine AnyK.tk 1 rfl ?_
    try simp only [AP]
    refine AnyK.tw 2 rfl ?_
    try simp only [AP]
    refine AnyK.step (i := 3) (by kernel_rfl) rfl (fun K hK => ?_)
    go_simp
    refine (l1Draw w4 br (p + 1) r4 (by omega)).mono ?_
    rintro e w5 ⟨y, q1, rfl, hn5, r5, hq1⟩
    have z5 := hn5.size
    have bR_5 := hn5.bo bR_4
    have bE_5 := hn5.bo bE_4
    have oA_5 := Lib.hid (oA_4.out.kp hn5 (fun b e => by omega))
    have oB_5 := Lib.hid (oB_4.out.kp hn5 (fun b e => by omega))
    have oX_5 := Lib.hid (oX_4.out.kp hn5 (fun b e => by omega))
    have K5 := K4.trans hn5
    clear cE0 lE
    clear bR_4 bE_4 oA_4 oB_4 oX_4 K4 r4 hn5
    have cE0 := cell_of_heap bE_5 0
    have lE := heap_lt bE_5
    refine hK.out _ _ ?_ (fun hHeld2 => ?_)
    · exact cE0
    clear hK K hHeld
    have hHeld := hHeld2
    clear hHeld2
    try simp only [AP]
    refine AnyK.tw 4 rfl ?_
    try simp only [AP]
    refine AnyK.last (by kernel_rfl) ?_
    simp only [List.drop_succ_cons, List.drop_zero]
    clear hHeld
    clear cE0 lE
    obtain ⟨-, _, ge, gc, gf⟩ := own_cells oA_5.out.own hxl
    cases ge
    have gc1 := gc 0 hxl
    have gf1 := gf 0
    have gs := Lib.hid (OwnR.mk (own_set1 oA_5.out.own 0 hxl y) oA_5.out.top)
    have gl : (xa.set 0 y).length = xa.length := by rw [List.length_set]
    generalize xa.set 0 y = ya at *
    clear gc gf
    obtain ⟨cE0, cE1, cE2⟩ := cells3 bE_5
    have lE := heap_lt bE_5
    go_upto_region 24 with fail
    have hk6 : Kp (fun b => b = g) w5 (w5.setCell ⟨g, 0, none⟩ (.int .i64 y)) := (Kp.refl (fun b => b = g) _).setCell (.inl rfl) _
    have oA_6 := gs
    generalize (w5.setCell ⟨g, 0, none⟩ (.int .i64 y)) = w6 at *
    clear gc1 gf1 gs
    have z6 := hk6.size
    have bR_6 := hk6.bo bR_5
    have bE_6 := hk6.bo bE_5
    have oB_6 := Lib.hid (oB_5.out.kp hk6 (fun b e => by omega))
    have oX_6 := Lib.hid (oX_5.out.kp hk6 (fun b e => by omega))
    have K6 : One br w w6 := one_on K5 hk6 (by omega)
    have r6 := r5.kp hk6
    clear cE0 cE1 cE2 lE
    clear bR_5 bE_5 oB_5 oX_5 K5 r5 hk6
    clear oA_5
    obtain ⟨cE0, cE1, cE2⟩ := cells3 bE_6
    have lE := heap_lt bE_6
    obtain ⟨cR0, cR1, cR2⟩ := cells3 bR_6
    have fR := frozen_of_heap bR_6
    have lR := heap_lt bR_6
    go_wp2
    have hkz := setMany_kp (w.heap.size + 1) [.slice (some ⟨g, 0, none⟩) xa.length t1, .slice g2 xb.length t2, .slice g3 l.length t3] w6 0
    have zs := setMany_size (w.heap.size + 1) [.slice (some ⟨g, 0, none⟩) xa.length t1, .slice g2 xb.length t2, .slice g3 l.length t3] w6 0
    have hR := setMany_row [.slice (some ⟨g, 0, none⟩) xa.length t1, .slice g2 xb.length t2, .slice g3 l.length t3] bR_6 rfl
    exact bodyPost_ret (results_cell_row rfl _ _ _ _ _ _ _ rfl hR Try.underlying37 rfl (by kernel_rfl)) rfl ⟨_, _, _, ya, xb, l, _, rfl, one_on K6 hkz (by omega), r6.keep hkz (fun b e => by omega), by omega, ((oA_6.out.kp hkz (fun b e => by omega)).reads.mono (lo' := w.heap.size) (hi' := (setMany w6 (w.heap.size + 1) 0 [.slice (some ⟨g, 0, none⟩) xa.length t1, .slice g2 xb.length t2, .slice g3 l.length t3]).heap.size) (by omega) (by omega)), ((oB_6.out.kp hkz (fun b e => by omega)).reads.mono (lo' := w.heap.size) (hi' := (setMany w6 (w.heap.size + 1) 0 [.slice (some ⟨g, 0, none⟩) xa.length t1, .slice g2 xb.length t2, .slice g3 l.length t3]).heap.size) (by omega) (by omega)), ((oX_6.out.kp hkz (fun b e => by omega)).reads.mono (lo' := w.heap.size) (hi' := (setMany w6 (w.heap.size + 1) 0 [.slice (some ⟨g, 0, none⟩) xa.length t1, .slice g2 xb.length t2, .slice g3 l.length t3]).heap.size) (by omega) (by omega)), by omega, Nat.le_refl _, Nat.le_refl _⟩
  have hv0 : (u == 0) = false := by simpa using hu0
  by_cases hu1 : u = 1
  · subst hu1
    have hA0 := oA_3.out.own
    have hA1 := oA_3.out
    have hLt := hA0.lt
    have hTp := hA1.top
    have hI : ∃ (a : Option Addr) (mm dd : Nat) (ya : List Int), ya.length = mm ∧ One br w w3 ∧ Rd w3 br (p + 1) ∧ w3.heap[be]? = some (.cells #[.slice a mm dd, .slice g2 xb.length t2, .slice g3 l.length t3] 37 (0, 0)) ∧ w3.heap[w.heap.size + 1]? = some (.cells #[.slice none 0 0, .slice none 0 0, .slice none 0 0] 37 (0, 0)) ∧ OwnF 1 encI w3 w.heap.size 3 (.slice a mm dd) ya ∧ OwnR 1 encI w3 l2 h2 3 (.slice g2 xb.length t2) xb ∧ CopyC.SR w3 l3 h3 (.slice g3 l.length t3) l ∧ mm ≤ xa.length + 13 ∧ (∀ c, (Value.slice a mm dd).ownBlock = some c → (c < l2 ∨ h2 ≤ c) ∧ (c < l3 ∨ h3 ≤ c) ∧ c ≠ be ∧ w.heap.size + 1 < c) ∧ be < w3.heap.size ∧ h2 ≤ w3.heap.size ∧ h3 ≤ w3.heap.size := ⟨g1, xa.length, t1, xa, rfl, K3, r3, bE_3, bR_3, hA0.mono (by omega), oB_3.out, oX_3.out, by omega, fun c hc => by have := hLt c hc; have := hTp c hc; omega, by omega, by omega, by omega⟩
    have hIh := Lib.hid hI
    clear hI hA0 hA1 hLt hTp oA_3 oB_3 oX_3 r3 K3 bE_3 bR_3
    go_wp2_with fail
    go_loopw [] (fun wr => Hid (∃ (a : Option Addr) (mm dd : Nat) (ya : List Int), ya.length = mm ∧ One br w wr ∧ Rd wr br (p + 1) ∧ wr.heap[be]? = some (.cells #[.slice a mm dd, .slice g2 xb.length t2, .slice g3 l.length t3] 37 (0, 0)) ∧ wr.heap[w.heap.size + 1]? = some (.cells #[.slice none 0 0, .slice none 0 0, .slice none 0 0] 37 (0, 0)) ∧ OwnF 1 encI wr w.heap.size 3 (.slice a mm dd) ya ∧ OwnR 1 encI wr l2 h2 3 (.slice g2 xb.length t2) xb ∧ CopyC.SR wr l3 h3 (.slice g3 l.length t3) l ∧ mm ≤ xa.length + 13 ∧ (∀ c, (Value.slice a mm dd).ownBlock = some c → (c < l2 ∨ h2 ≤ c) ∧ (c < l3 ∨ h3 ≤ c) ∧ c ≠ be ∧ w.heap.size + 1 < c) ∧ be < wr.heap.size ∧ h2 ≤ wr.heap.size ∧ h3 ≤ wr.heap.size)) (fun wr => 13 - lenAt wr be)
    case atStart => exact Lib.hid hIh.out
    case round =>
      obtain ⟨a, m, dd, ya, hm, K, r, bE, bR, oA, oB, oX, hmx, hoff, hbe2, hh2, hh3⟩ := hrel.out
      clear hIh hrel
      have oAh := Lib.hid oA
      have oBh := Lib.hid oB
      have oXh := Lib.hid oX
      have hoffh := Lib.hid hoff
      have hmh := Lib.hid hm
      have zK := K.size
      have hla := lenAt_of bE
      clear oA oB oX hoff hm
      obtain ⟨cE0, cE1, cE2⟩ := cells3 bE
      have fE := frozen_of_heap bE
      by_cases hlt : m ≤ 12
      · have kn : New wr (wr.alloc (.cells #[.int .i64 1] 3)) := (Kp.refl _ _).alloc _
        have bEn := heap_new kn bE
        have bRn := heap_new kn bR
        have oAn := Lib.hid (oAh.out.new kn)
        have oBn := Lib.hid (oBh.out.new (by omega) kn)
        have oXn := Lib.hid (oXh.out.new kn)
        have rn := r.nw kn
        have Kn := K.nw kn
        have hlt0 := oAh.out.lt
        have hlth := Lib.hid hlt0
        have zn : wr.heap.size < (wr.alloc (.cells #[.int .i64 1] 3)).heap.size := lt_alloc _ _
        have dE0 := cell_of_heap bEn 0
        clear hlt0
        have one1 : FlR 1 encI (wr.alloc (.cells #[.int .i64 1] 3)) wr.heap.size (wr.heap.size + 1) (.slice (some ⟨wr.heap.size, 0, none⟩) 1 1) [1] := FlR.one fun t ht => (by have e : t = 0 := (by omega); subst e; exact cell_of_heap (alloc_heap wr (.cells #[.int .i64 1] 3)) 0)
        have one1h := Lib.hid one1
        clear one1 K r
        go_wp2_with (at_builtin; refine wpList_pushesN rfl _ _ 34 rfl w.heap.size 3 _ _ Try.underlying34 LawF.infoI rfl (by decide) (.slice a m dd) ya rfl oAn.out _ [1] rfl one1h.out (fun y _ => fun _ => rfl) (by have := hmh.out; simp; omega) (by have := hmh.out; simp; omega) (by omega) ?_)
        intro v1 w5 hv1 hk1 ha1
        obtain ⟨a5, d5, e5, _⟩ := hv1.reads.len
        have hm5 : (ya ++ [1]).length = m + 1 := by simp [hmh.out]
        rw [hm5] at e5
        subst e5
        have hm5h := Lib.hid hm5
        have hv5 := Lib.hid hv1
        have bE5 := hk1.bk bEn (fun q => by have := (hoffh.out _ q).2.2; omega)
        have bR5 := hk1.bk bRn (fun q => by have := (hoffh.out _ q).2.2; omega)
        have oB5 := Lib.hid (oBn.out.kp hk1 (fun b q => (hoffh.out _ q).1))
        have oX5 := Lib.hid (oXn.out.kp hk1 (fun b q => (hoffh.out _ q).2.1))
        have r5 := rn.keep hk1 (fun b q => by have := (hoffh.out _ q).2.2; omega)
        have K5 := one_new Kn hk1 (fun b q => by have := (hoffh.out _ q).2.2; omega)
        have z5 := hk1.size
        have hoff5 := Lib.hid (show ∀ c, (Value.slice a5 (m + 1) d5).ownBlock = some c → (c < l2 ∨ h2 ≤ c) ∧ (c < l3 ∨ h3 ≤ c) ∧ c ≠ be ∧ w.heap.size + 1 < c from fun c hc => by
          rcases ha1 with q | q
          · exact hoffh.out c (q ▸ hc)
          · rw [q] at hc; cases hc; refine ⟨?_, ?_, ?_, ?_⟩ <;> omega)
        have hlv := Lib.hid hv1.lt
        clear hv1 hk1 ha1 hm5 oAn oBn oXn rn Kn bEn bRn dE0 oBh oXh oAh hlth hoffh bE bR one1h cE0 cE1 cE2 fE
        have kz : Kp (fun b => b = be) w5 (w5.setCell ⟨be, 0, none⟩ (.slice a5 (m + 1) d5)) := (Kp.refl (fun b => b = be) _).setCell (.inl rfl) _
        have bE6 := setCell_heap (o := 0) bE5 (.slice a5 (m + 1) d5)
        have bR6 := heap_set (o := 0) (c := be) bR5 (by omega) (.slice a5 (m + 1) d5)
        have z6 := kz.size
        have hla6 := lenAt_of bE6
        have hI : Hid (∃ (a : Option Addr) (mm dd : Nat) (ya : List Int), ya.length = mm ∧ One br w (w5.setCell ⟨be, 0, none⟩ (.slice a5 (m + 1) d5)) ∧ Rd (w5.setCell ⟨be, 0, none⟩ (.slice a5 (m + 1) d5)) br (p + 1) ∧ (w5.setCell ⟨be, 0, none⟩ (.slice a5 (m + 1) d5)).heap[be]? = some (.cells #[.slice a mm dd, .slice g2 xb.length t2, .slice g3 l.length t3] 37 (0, 0)) ∧ (w5.setCell ⟨be, 0, none⟩ (.slice a5 (m + 1) d5)).heap[w.heap.size + 1]? = some (.cells #[.slice none 0 0, .slice none 0 0, .slice none 0 0] 37 (0, 0)) ∧ OwnF 1 encI (w5.setCell ⟨be, 0, none⟩ (.slice a5 (m + 1) d5)) w.heap.size 3 (.slice a mm dd) ya ∧ OwnR 1 encI (w5.setCell ⟨be, 0, none⟩ (.slice a5 (m + 1) d5)) l2 h2 3 (.slice g2 xb.length t2) xb ∧ CopyC.SR (w5.setCell ⟨be, 0, none⟩ (.slice a5 (m + 1) d5)) l3 h3 (.slice g3 l.length t3) l ∧ mm ≤ xa.length + 13 ∧ (∀ c, (Value.slice a mm dd).ownBlock = some c → (c < l2 ∨ h2 ≤ c) ∧ (c < l3 ∨ h3 ≤ c) ∧ c ≠ be ∧ w.heap.size + 1 < c) ∧ be < (w5.setCell ⟨be, 0, none⟩ (.slice a5 (m + 1) d5)).heap.size ∧ h2 ≤ (w5.setCell ⟨be, 0, none⟩ (.slice a5 (m + 1) d5)).heap.size ∧ h3 ≤ (w5.setCell ⟨be, 0, none⟩ (.slice a5 (m + 1) d5)).heap.size) := Lib.hid ⟨a5, m + 1, d5, ya ++ [1], hm5h.out, one_on K5 kz (by omega), r5.keep kz (fun b e => by omega), bE6, bR6, hv5.out.kp kz (fun b hb e => by have := (hoff5.out b hb).2.2.1; omega), oB5.out.kp kz (fun b e => by omega), oX5.out.kp kz (fun b e => by omega), by omega, hoff5.out, by omega, by omega, by omega⟩
        have dE5 := cell_of_heap bE5 0
        have dF5 := frozen_of_heap bE5
        have lE5 := heap_lt bE5
        clear K5 r5 bE6 bR6 hv5 oB5 oX5 kz bE5 bR5 hoff5 hlv hm5h
        go_wp2
        go_roundw
        case rel => exact hI
        case measure => omega
      have hge : ¬ (m : Int) ≤ 12 := by omega
      have hge2 : 12 < (m : Int) := by omega
      have hA2 := CopyC.row_rng2 oAh.out (by omega)
      obtain ⟨l1b, h1b, oA1, qa1, qa2, qa3, qa4, qa5⟩ := hA2
      have rf := frozen_of_heap bR
      have rl := heap_lt bR
      obtain ⟨rc0, rc1, rc2⟩ := cells3 bR
      have oA1h := Lib.hid oA1
      have hoff1 := Lib.hid (qa5 (w.heap.size + 1) (fun b hb e => by have := (hoffh.out b hb).2.2.2; omega))
      clear oA1 qa4 qa5 hlt
      go_wp2
      have hkz := setMany_kp (w.heap.size + 1) [.slice a m dd, .slice g2 xb.length t2, .slice g3 l.length t3] wr 0
      have zs := setMany_size (w.heap.size + 1) [.slice a m dd, .slice g2 xb.length t2, .slice g3 l.length t3] wr 0
      have hR := setMany_row [.slice a m dd, .slice g2 xb.length t2, .slice g3 l.length t3] bR rfl
      have hAz := ((oA1h.out.kp hkz (fun b e => by have := hoff1.out; omega)).reads.mono (lo' := w.heap.size) (hi' := (setMany wr (w.heap.size + 1) 0 [.slice a m dd, .slice g2 xb.length t2, .slice g3 l.length t3]).heap.size) (by omega) (by omega))
      exact bodyPost_ret (results_cell_row rfl _ _ _ _ _ _ _ rfl hR Try.underlying37 rfl (by kernel_rfl)) rfl ⟨_, _, _, ya, xb, l, _, rfl, one_on K hkz (by omega), r.keep hkz (fun b e => by omega), by omega, hAz, ((oBh.out.kp hkz (fun b e => by omega)).reads.mono (lo' := w.heap.size) (hi' := (setMany wr (w.heap.size + 1) 0 [.slice a m dd, .slice g2 xb.length t2, .slice g3 l.length t3]).heap.size) (by omega) (by omega)), ((oXh.out.kp hkz (fun b e => by omega)).reads.mono (lo' := w.heap.size) (hi' := (setMany wr (w.heap.size + 1) 0 [.slice a m dd, .slice g2 xb.length t2, .slice g3 l.length t3]).heap.size) (by omega) (by omega)), by have := hmh.out; omega, Nat.le_refl _, Nat.le_refl _⟩
  have hv1 : (u == 1) = false := by simpa using hu1
  by_cases hu2 : u = 2
  · subst hu2
    by_cases hx0 : l.length = 0
    · have hxl : decide (0 < l.length) = false := by simp [hx0]
      have hxm : decide ((0 : Int) < (l.length : Int)) = false := by simp [hx0]
      clear hx0
      obtain ⟨cE0, cE1, cE2⟩ := cells3 bE_3
      have lE := heap_lt bE_3
      obtain ⟨cR0, cR1, cR2⟩ := cells3 bR_3
      have fR := frozen_of_heap bR_3
      have lR := heap_lt bR_3
      go_wp2
      have hkz := setMany_kp (w.heap.size + 1) [.slice g1 xa.length t1, .slice g2 xb.length t2, .slice g3 l.length t3] w3 0
      have zs := setMany_size (w.heap.size + 1) [.slice g1 xa.length t1, .slice g2 xb.length t2, .slice g3 l.length t3] w3 0
      have hR := setMany_row [.slice g1 xa.length t1, .slice g2 xb.length t2, .slice g3 l.length t3] bR_3 rfl
      exact bodyPost_ret (results_cell_row rfl _ _ _ _ _ _ _ rfl hR Try.underlying37 rfl (by kernel_rfl)) rfl ⟨_, _, _, xa, xb, l, _, rfl, one_on K3 hkz (by omega), r3.keep hkz (fun b e => by omega), by omega, ((oA_3.out.kp hkz (fun b e => by omega)).reads.mono (lo' := w.heap.size) (hi' := (setMany w3 (w.heap.size + 1) 0 [.slice g1 xa.length t1, .slice g2 xb.length t2, .slice g3 l.length t3]).heap.size) (by omega) (by omega)), ((oB_3.out.kp hkz (fun b e => by omega)).reads.mono (lo' := w.heap.size) (hi' := (setMany w3 (w.heap.size + 1) 0 [.slice g1 xa.length t1, .slice g2 xb.length t2, .slice g3 l.length t3]).heap.size) (by omega) (by omega)), ((oX_3.out.kp hkz (fun b e => by omega)).reads.mono (lo' := w.heap.size) (hi' := (setMany w3 (w.heap.size + 1) 0 [.slice g1 xa.length t1, .slice g2 xb.length t2, .slice g3 l.length t3]).heap.size) (by omega) (by omega)), by omega, Nat.le_refl _, Nat.le_refl _⟩
    have hnl : 0 < (l.length : Int) := by omega
    have hxl : 0 < l.length := by omega
    clear hx0
    have hjl : 0 < l.length := hxl
    obtain ⟨g, cap, x0, ge, -, -, -⟩ := SR_row oX_3.out 0 hjl
    cases ge
    obtain ⟨cE0, cE1, cE2⟩ := cells3 bE_3
    have fE := frozen_of_heap bE_3
    have lE := heap_lt bE_3
    go_wp2_with fail
    refine wp_region_tail (k := 7) (S := fun w' => w'.cell? ⟨be, 2, none⟩ = some (.slice (some ⟨g, 0, none⟩) l.length t3)) (by kernel_rfl) ?_ (fun hHeld => ?_)
    · exact cE2
    clear cE0 cE1 cE2 fE lE
    have hn4 : New w3 w3.drew := (Kp.refl _ _).drew
    generalize w3.drew = w4 at *
    have z4 := hn4.size
    have bR_4 := hn4.bk bR_3
    have bE_4 := hn4.bk bE_3
    have oA_4 := Lib.hid (oA_3.out.new (by omega) hn4)
    have oB_4 := Lib.hid (oB_3.out.new (by omega) hn4)
    have oX_4 := Lib.hid (oX_3.out.new hn4)
    have K4 := K3.nw hn4
    have r4 := r3.nw hn4
    clear bR_3 bE_3 oA_3 oB_3 oX_3 K3 r3 hn4
    have cE2 := cell_of_heap bE_4 2
    have lE := heap_lt bE_4
    refine AnyK.tw 0 rfl ?_
    try simp only [AP]
    refine AnyK.tk 1 rfl ?_
    try simp only [AP]
    refine AnyK.tw 2 rfl ?_
    try simp only [AP]
    refine AnyK.step (i := 3) (by kernel_rfl) rfl (fun K hK => ?_)
    go_simp
    obtain ⟨hn5, y5, bN_5⟩ := newb w4 (.cells #[.int .i64 0, .int .i64 6, .int .i64 1, .int .i64 5, .int .i64 2] 3)
    generalize w4.alloc (.cells #[.int .i64 0, .int .i64 6, .int .i64 1, .int .i64 5, .int .i64 2] 3) = w5 at *
    have z5 := hn5.size
    have bR_5 := hn5.bk bR_4
    have bE_5 := hn5.bk bE_4
    have oA_5 := Lib.hid (oA_4.out.new (by omega) hn5)
    have oB_5 := Lib.hid (oB_4.out.new (by omega) hn5)
    have oX_5 := Lib.hid (oX_4.out.new hn5)
    have K5 := K4.nw hn5
    have r5 := r4.nw hn5
    clear cE2 lE
    clear bR_4 bE_4 oA_4 oB_4 oX_4 K4 r4 hn5
    have cE2 := cell_of_heap bE_5 2
    have lE := heap_lt bE_5
    refine hK.out _ _ ?_ (fun hHeld2 => ?_)
    · exact cE2
    clear hK K hHeld
    have hHeld := hHeld2
    clear hHeld2
    try simp only [AP]
    refine AnyK.step (i := 4) (by kernel_rfl) rfl (fun K hK => ?_)
    go_simp
    have hNc := Lib.hid (fun i : Nat => cell_of_heap bN_5 i)
    have hNl := heap_lt bN_5
    have hNr := r5.lt
    refine (num w5 br (p + 1) (w4.heap.size) 5 _ (fun x => 0 ≤ x ∧ x ≤ 6) r5 (by omega) (by omega) (by omega) (by omega) ?_).mono ?_
    · intro i hi
      have hi2 := hNc.out i
      match i, hi with
      | 0, _ => exact ⟨_, by decide, hi2⟩
      | 1, _ => exact ⟨_, by decide, hi2⟩
      | 2, _ => exact ⟨_, by decide, hi2⟩
      | 3, _ => exact ⟨_, by decide, hi2⟩
      | 4, _ => exact ⟨_, by decide, hi2⟩
    rintro e w6 ⟨y, rfl, ⟨y0, y1⟩, hn6, r6⟩
    clear hNc hNl hNr bN_5
    have z6 := hn6.size
    have bR_6 := hn6.bo bR_5
    have bE_6 := hn6.bo bE_5
    have oA_6 := Lib.hid (oA_5.out.kp hn6 (fun b e => by omega))
    have oB_6 := Lib.hid (oB_5.out.kp hn6 (fun b e => by omega))
    have oX_6 := Lib.hid (oX_5.out.kp hn6 (fun b e => by omega))
    have K6 := K5.trans hn6
    clear cE2 lE
    clear bR_5 bE_5 oA_5 oB_5 oX_5 K5 r5 hn6
    have cE2 := cell_of_heap bE_6 2
    have lE := heap_lt bE_6
    refine hK.out _ _ ?_ (fun hHeld2 => ?_)
    · exact cE2
    clear hK K hHeld
    have hHeld := hHeld2
    clear hHeld2
    try simp only [AP]
    refine AnyK.tw 5 rfl ?_
    try simp only [AP]
    refine AnyK.tw 6 rfl ?_
    try simp only [AP]
    refine AnyK.last (by kernel_rfl) ?_
    simp only [List.drop_succ_cons, List.drop_zero]
    clear hHeld
    clear cE2 lE
    obtain ⟨_, _, x1, ge, gl1, gl2, gc, gf, gs⟩ := SR_row oX_6.out 0 hjl
    cases ge
    have gc1 := gc 0 (by decide)
    have gf1 := gf (0)
    have gss := gs 0 (by decide) y (.node (y) (l[0].target) (.node l[0].index.kind l[0].index.val l[0].index.kids) (.node l[0].value.kind (l[0].value.val) l[0].value.kids) (l[0].count) l[0].body l[0].els) (St.size_of (by rfl) (by rfl) (by rfl) (by rfl)) (SetAt.k)
    simp only [Nat.zero_mul, Nat.zero_add] at gc1 gss
    have hsz := gss.2
    have gx := Lib.hid gss.1
    have gln : (l.set 0 (.node (y) (l[0].target) (.node l[0].index.kind l[0].index.val l[0].index.kids) (.node l[0].value.kind (l[0].value.val) l[0].value.kids) (l[0].count) l[0].body l[0].els)).length = l.length := by rw [List.length_set]
    generalize l.set 0 (.node (y) (l[0].target) (.node l[0].index.kind l[0].index.val l[0].index.kids) (.node l[0].value.kind (l[0].value.val) l[0].value.kids) (l[0].count) l[0].body l[0].els) = m at *
    clear gc gf gs gss
    obtain ⟨cE0, cE1, cE2⟩ := cells3 bE_6
    have lE := heap_lt bE_6
    go_upto_region 24 with fail
    have hk7 : Kp (fun b => b = g) w6 (w6.setCell ⟨g, 0, none⟩ (.int .i64 y)) := (Kp.refl (fun b => b = g) _).setCell (.inl rfl) _
    have oX_7 := gx
    generalize (w6.setCell ⟨g, 0, none⟩ (.int .i64 y)) = w7 at *
    clear gc1 gf1 gx
    have z7 := hk7.size
    have bR_7 := hk7.bo bR_6
    have bE_7 := hk7.bo bE_6
    have oA_7 := Lib.hid (oA_6.out.kp hk7 (fun b e => by omega))
    have oB_7 := Lib.hid (oB_6.out.kp hk7 (fun b e => by omega))
    have K7 : One br w w7 := one_on K6 hk7 (by omega)
    have r7 := r6.kp hk7
    clear cE0 cE1 cE2 lE
    clear bR_6 bE_6 oA_6 oB_6 K6 r6 hk7
    clear oX_6
    obtain ⟨cE0, cE1, cE2⟩ := cells3 bE_7
    have lE := heap_lt bE_7
    obtain ⟨cR0, cR1, cR2⟩ := cells3 bR_7
    have fR := frozen_of_heap bR_7
    have lR := heap_lt bR_7
    go_wp2
    have hkz := setMany_kp (w.heap.size + 1) [.slice g1 xa.length t1, .slice g2 xb.length t2, .slice (some ⟨g, 0, none⟩) l.length t3] w7 0
    have zs := setMany_size (w.heap.size + 1) [.slice g1 xa.length t1, .slice g2 xb.length t2, .slice (some ⟨g, 0, none⟩) l.length t3] w7 0
    have hR := setMany_row [.slice g1 xa.length t1, .slice g2 xb.length t2, .slice (some ⟨g, 0, none⟩) l.length t3] bR_7 rfl
    exact bodyPost_ret (results_cell_row rfl _ _ _ _ _ _ _ rfl hR Try.underlying37 rfl (by kernel_rfl)) rfl ⟨_, _, _, xa, xb, m, _, rfl, one_on K7 hkz (by omega), r7.keep hkz (fun b e => by omega), by omega, ((oA_7.out.kp hkz (fun b e => by omega)).reads.mono (lo' := w.heap.size) (hi' := (setMany w7 (w.heap.size + 1) 0 [.slice g1 xa.length t1, .slice g2 xb.length t2, .slice (some ⟨g, 0, none⟩) l.length t3]).heap.size) (by omega) (by omega)), ((oB_7.out.kp hkz (fun b e => by omega)).reads.mono (lo' := w.heap.size) (hi' := (setMany w7 (w.heap.size + 1) 0 [.slice g1 xa.length t1, .slice g2 xb.length t2, .slice (some ⟨g, 0, none⟩) l.length t3]).heap.size) (by omega) (by omega)), ((oX_7.out.kp hkz (fun b e => by omega)).reads.mono (lo' := w.heap.size) (hi' := (setMany w7 (w.heap.size + 1) 0 [.slice g1 xa.length t1, .slice g2 xb.length t2, .slice (some ⟨g, 0, none⟩) l.length t3]).heap.size) (by omega) (by omega)), by omega, Nat.le_refl _, hsz⟩
  have hv2 : (u == 2) = false := by simpa using hu2
  by_cases hu3 : u = 3
  · subst hu3
    by_cases hx0 : l.length = 0
    · have hxl : decide (0 < l.length) = false := by simp [hx0]
      have hxm : decide ((0 : Int) < (l.length : Int)) = false := by simp [hx0]
      clear hx0
      obtain ⟨cE0, cE1, cE2⟩ := cells3 bE_3
      have lE := heap_lt bE_3
      obtain ⟨cR0, cR1, cR2⟩ := cells3 bR_3
      have fR := frozen_of_heap bR_3
      have lR := heap_lt bR_3
      go_wp2
      have hkz := setMany_kp (w.heap.size + 1) [.slice g1 xa.length t1, .slice g2 xb.length t2, .slice g3 l.length t3] w3 0
      have zs := setMany_size (w.heap.size + 1) [.slice g1 xa.length t1, .slice g2 xb.length t2, .slice g3 l.length t3] w3 0
      have hR := setMany_row [.slice g1 xa.length t1, .slice g2 xb.length t2, .slice g3 l.length t3] bR_3 rfl
      exact bodyPost_ret (results_cell_row rfl _ _ _ _ _ _ _ rfl hR Try.underlying37 rfl (by kernel_rfl)) rfl ⟨_, _, _, xa, xb, l, _, rfl, one_on K3 hkz (by omega), r3.keep hkz (fun b e => by omega), by omega, ((oA_3.out.kp hkz (fun b e => by omega)).reads.mono (lo' := w.heap.size) (hi' := (setMany w3 (w.heap.size + 1) 0 [.slice g1 xa.length t1, .slice g2 xb.length t2, .slice g3 l.length t3]).heap.size) (by omega) (by omega)), ((oB_3.out.kp hkz (fun b e => by omega)).reads.mono (lo' := w.heap.size) (hi' := (setMany w3 (w.heap.size + 1) 0 [.slice g1 xa.length t1, .slice g2 xb.length t2, .slice g3 l.length t3]).heap.size) (by omega) (by omega)), ((oX_3.out.kp hkz (fun b e => by omega)).reads.mono (lo' := w.heap.size) (hi' := (setMany w3 (w.heap.size + 1) 0 [.slice g1 xa.length t1, .slice g2 xb.length t2, .slice g3 l.length t3]).heap.size) (by omega) (by omega)), by omega, Nat.le_refl _, Nat.le_refl _⟩
    have hnl : 0 < (l.length : Int) := by omega
    have hxl : 0 < l.length := by omega
    clear hx0
    obtain ⟨j, hj⟩ : ∃ j, l.length = j + 1 := ⟨l.length - 1, by omega⟩
    have hwm : IntKind.i64.wrap ((l.length : Int) - 1) = (j : Int) := by rw [IntWalk.i64_in _ (by omega)]; omega
    have hjl : j < l.length := by omega
    clear hj
    obtain ⟨g, cap, x0, ge, -, -, -⟩ := SR_row oX_3.out j hjl
    cases ge
    obtain ⟨cE0, cE1, cE2⟩ := cells3 bE_3
    have fE := frozen_of_heap bE_3
    have lE := heap_lt bE_3
    go_wp2_with fail
    refine wp_region_tail (k := 9) (S := fun w' => w'.cell? ⟨be, 2, none⟩ = some (.slice (some ⟨g, 0, none⟩) l.length t3)) (by kernel_rfl) ?_ (fun hHeld => ?_)
    · exact cE2
    clear cE0 cE1 cE2 fE lE
    have hn4 : New w3 w3.drew := (Kp.refl _ _).drew
    generalize w3.drew = w4 at *
    have z4 := hn4.size
    have bR_4 := hn4.bk bR_3
    have bE_4 := hn4.bk bE_3
    have oA_4 := Lib.hid (oA_3.out.new (by omega) hn4)
    have oB_4 := Lib.hid (oB_3.out.new (by omega) hn4)
    have oX_4 := Lib.hid (oX_3.out.new hn4)
    have K4 := K3.nw hn4
    have r4 := r3.nw hn4
    clear bR_3 bE_3 oA_3 oB_3 oX_3 K3 r3 hn4
    have cE2 := cell_of_heap bE_4 2
    have lE := heap_lt bE_4
    refine AnyK.tw 0 rfl ?_
    try simp only [AP]
    refine AnyK.tk 1 rfl ?_
    try simp only [AP]
    refine AnyK.tw 2 rfl ?_
    try simp only [AP]
    refine AnyK.tw 3 rfl ?_
    try simp only [AP]
    refine AnyK.tw 4 rfl ?_
    try simp only [AP]
    refine AnyK.step (i := 5) (by kernel_rfl) rfl (fun K hK => ?_)
    go_simp
    obtain ⟨hn5, y5, bN_5⟩ := newb w4 (.cells #[.int .i64 (-1), .int .i64 12, .int .i64 1, .int .i64 9223372036854775807] 3)
    generalize w4.alloc (.cells #[.int .i64 (-1), .int .i64 12, .int .i64 1, .int .i64 9223372036854775807] 3) = w5 at *
    have z5 := hn5.size
    have bR_5 := hn5.bk bR_4
    have bE_5 := hn5.bk bE_4
    have oA_5 := Lib.hid (oA_4.out.new (by omega) hn5)
    have oB_5 := Lib.hid (oB_4.out.new (by omega) hn5)
    have oX_5 := Lib.hid (oX_4.out.new hn5)
    have K5 := K4.nw hn5
    have r5 := r4.nw hn5
    clear cE2 lE
    clear bR_4 bE_4 oA_4 oB_4 oX_4 K4 r4 hn5
    have cE2 := cell_of_heap bE_5 2
    have lE := heap_lt bE_5
    refine hK.out _ _ ?_ (fun hHeld2 => ?_)
    · exact cE2
    clear hK K hHeld
    have hHeld := hHeld2
    clear hHeld2
    try simp only [AP]
    refine AnyK.step (i := 6) (by kernel_rfl) rfl (fun K hK => ?_)
    go_simp
    have hNc := Lib.hid (fun i : Nat => cell_of_heap bN_5 i)
    have hNl := heap_lt bN_5
    have hNr := r5.lt
    refine (num w5 br (p + 1) (w4.heap.size) 4 _ (fun x => -1 ≤ x ∧ x ≤ 9223372036854775807) r5 (by omega) (by omega) (by omega) (by omega) ?_).mono ?_
    · intro i hi
      have hi2 := hNc.out i
      match i, hi with
      | 0, _ => exact ⟨_, by decide, hi2⟩
      | 1, _ => exact ⟨_, by decide, hi2⟩
      | 2, _ => exact ⟨_, by decide, hi2⟩
      | 3, _ => exact ⟨_, by decide, hi2⟩
    rintro e w6 ⟨y, rfl, ⟨y0, y1⟩, hn6, r6⟩
    clear hNc hNl hNr bN_5
    have z6 := hn6.size
    have bR_6 := hn6.bo bR_5
    have bE_6 := hn6.bo bE_5
    have oA_6 := Lib.hid (oA_5.out.kp hn6 (fun b e => by omega))
    have oB_6 := Lib.hid (oB_5.out.kp hn6 (fun b e => by omega))
    have oX_6 := Lib.hid (oX_5.out.kp hn6 (fun b e => by omega))
    have K6 := K5.trans hn6
    clear cE2 lE
    clear bR_5 bE_5 oA_5 oB_5 oX_5 K5 r5 hn6
    have cE2 := cell_of_heap bE_6 2
    have lE := heap_lt bE_6
    refine hK.out _ _ ?_ (fun hHeld2 => ?_)
    · exact cE2
    clear hK K hHeld
    have hHeld := hHeld2
    clear hHeld2
    try simp only [AP]
    refine AnyK.tw 7 rfl ?_
    try simp only [AP]
    refine AnyK.tw 8 rfl ?_
    try simp only [AP]
    refine AnyK.last (by kernel_rfl) ?_
    simp only [List.drop_succ_cons, List.drop_zero]
    clear hHeld
    clear cE2 lE
    obtain ⟨_, _, x1, ge, gl1, gl2, gc, gf, gs⟩ := SR_row oX_6.out j hjl
    cases ge
    have gc1 := gc 1 (by decide)
    have gf1 := gf (j * 11 + 1)
    have gss := gs 1 (by decide) y (.node (l[j].kind) (y) (.node l[j].index.kind l[j].index.val l[j].index.kids) (.node l[j].value.kind (l[j].value.val) l[j].value.kids) (l[j].count) l[j].body l[j].els) (St.size_of (by rfl) (by rfl) (by rfl) (by rfl)) (SetAt.t)
    have hsz := gss.2
    have gx := Lib.hid gss.1
    have gln : (l.set j (.node (l[j].kind) (y) (.node l[j].index.kind l[j].index.val l[j].index.kids) (.node l[j].value.kind (l[j].value.val) l[j].value.kids) (l[j].count) l[j].body l[j].els)).length = l.length := by rw [List.length_set]
    generalize l.set j (.node (l[j].kind) (y) (.node l[j].index.kind l[j].index.val l[j].index.kids) (.node l[j].value.kind (l[j].value.val) l[j].value.kids) (l[j].count) l[j].body l[j].els) = m at *
    clear gc gf gs gss
    obtain ⟨cE0, cE1, cE2⟩ := cells3 bE_6
    have lE := heap_lt bE_6
    go_upto_region 24 with fail
    have hk7 : Kp (fun b => b = g) w6 (w6.setCell ⟨g, j * 11 + 1, none⟩ (.int .i64 y)) := (Kp.refl (fun b => b = g) _).setCell (.inl rfl) _
    have oX_7 := gx
    generalize (w6.setCell ⟨g, j * 11 + 1, none⟩ (.int .i64 y)) = w7 at *
    clear gc1 gf1 gx
    have z7 := hk7.size
    have bR_7 := hk7.bo bR_6
    have bE_7 := hk7.bo bE_6
    have oA_7 := Lib.hid (oA_6.out.kp hk7 (fun b e => by omega))
    have oB_7 := Lib.hid (oB_6.out.kp hk7 (fun b e => by omega))
    have K7 : One br w w7 := one_on K6 hk7 (by omega)
    have r7 := r6.kp hk7
    clear cE0 cE1 cE2 lE
    clear bR_6 bE_6 oA_6 oB_6 K6 r6 hk7
    clear oX_6
    obtain ⟨cE0, cE1, cE2⟩ := cells3 bE_7
    have lE := heap_lt bE_7
    obtain ⟨cR0, cR1, cR2⟩ := cells3 bR_7
    have fR := frozen_of_heap bR_7
    have lR := heap_lt bR_7
    go_wp2
    have hkz := setMany_kp (w.heap.size + 1) [.slice g1 xa.length t1, .slice g2 xb.length t2, .slice (some ⟨g, 0, none⟩) l.length t3] w7 0
    have zs := setMany_size (w.heap.size + 1) [.slice g1 xa.length t1, .slice g2 xb.length t2, .slice (some ⟨g, 0, none⟩) l.length t3] w7 0
    have hR := setMany_row [.slice g1 xa.length t1, .slice g2 xb.length t2, .slice (some ⟨g, 0, none⟩) l.length t3] bR_7 rfl
    exact bodyPost_ret (results_cell_row rfl _ _ _ _ _ _ _ rfl hR Try.underlying37 rfl (by kernel_rfl)) rfl ⟨_, _, _, xa, xb, m, _, rfl, one_on K7 hkz (by omega), r7.keep hkz (fun b e => by omega), by omega, ((oA_7.out.kp hkz (fun b e => by omega)).reads.mono (lo' := w.heap.size) (hi' := (setMany w7 (w.heap.size + 1) 0 [.slice g1 xa.length t1, .slice g2 xb.length t2, .slice (some ⟨g, 0, none⟩) l.length t3]).heap.size) (by omega) (by omega)), ((oB_7.out.kp hkz (fun b e => by omega)).reads.mono (lo' := w.heap.size) (hi' := (setMany w7 (w.heap.size + 1) 0 [.slice g1 xa.length t1, .slice g2 xb.length t2, .slice (some ⟨g, 0, none⟩) l.length t3]).heap.size) (by omega) (by omega)), ((oX_7.out.kp hkz (fun b e => by omega)).reads.mono (lo' := w.heap.size) (hi' := (setMany w7 (w.heap.size + 1) 0 [.slice g1 xa.length t1, .slice g2 xb.length t2, .slice (some ⟨g, 0, none⟩) l.length t3]).heap.size) (by omega) (by omega)), by omega, Nat.le_refl _, hsz⟩
  have hv3 : (u == 3) = false := by simpa using hu3
  by_cases hu4 : u = 4
  · subst hu4
    by_cases hx0 : l.length = 0
    · have hxl : decide (0 < l.length) = false := by simp [hx0]
      have hxm : decide ((0 : Int) < (l.length : Int)) = false := by simp [hx0]
      clear hx0
      obtain ⟨cE0, cE1, cE2⟩ := cells3 bE_3
      have lE := heap_lt bE_3
      obtain ⟨cR0, cR1, cR2⟩ := cells3 bR_3
      have fR := frozen_of_heap bR_3
      have lR := heap_lt bR_3
      go_wp2
      have hkz := setMany_kp (w.heap.size + 1) [.slice g1 xa.length t1, .slice g2 xb.length t2, .slice g3 l.length t3] w3 0
      have zs := setMany_size (w.heap.size + 1) [.slice g1 xa.length t1, .slice g2 xb.length t2, .slice g3 l.length t3] w3 0
      have hR := setMany_row [.slice g1 xa.length t1, .slice g2 xb.length t2, .slice g3 l.length t3] bR_3 rfl
      exact bodyPost_ret (results_cell_row rfl _ _ _ _ _ _ _ rfl hR Try.underlying37 rfl (by kernel_rfl)) rfl ⟨_, _, _, xa, xb, l, _, rfl, one_on K3 hkz (by omega), r3.keep hkz (fun b e => by omega), by omega, ((oA_3.out.kp hkz (fun b e => by omega)).reads.mono (lo' := w.heap.size) (hi' := (setMany w3 (w.heap.size + 1) 0 [.slice g1 xa.length t1, .slice g2 xb.length t2, .slice g3 l.length t3]).heap.size) (by omega) (by omega)), ((oB_3.out.kp hkz (fun b e => by omega)).reads.mono (lo' := w.heap.size) (hi' := (setMany w3 (w.heap.size + 1) 0 [.slice g1 xa.length t1, .slice g2 xb.length t2, .slice g3 l.length t3]).heap.size) (by omega) (by omega)), ((oX_3.out.kp hkz (fun b e => by omega)).reads.mono (lo' := w.heap.size) (hi' := (setMany w3 (w.heap.size + 1) 0 [.slice g1 xa.length t1, .slice g2 xb.length t2, .slice g3 l.length t3]).heap.size) (by omega) (by omega)), by omega, Nat.le_refl _, Nat.le_refl _⟩
    have hnl : 0 < (l.length : Int) := by omega
    have hxl : 0 < l.length := by omega
    clear hx0
    have hjl : 0 < l.length := hxl
    obtain ⟨g, cap, x0, ge, -, -, -⟩ := SR_row oX_3.out 0 hjl
    cases ge
    obtain ⟨cE0, cE1, cE2⟩ := cells3 bE_3
    have fE := frozen_of_heap bE_3
    have lE := heap_lt bE_3
    go_wp2_with fail
    refine wp_region_tail (k := 8) (S := fun w' => w'.cell? ⟨be, 2, none⟩ = some (.slice (some ⟨g, 0, none⟩) l.length t3)) (by kernel_rfl) ?_ (fun hHeld => ?_)
    · exact cE2
    clear cE0 cE1 cE2 fE lE
    have hn4 : New w3 w3.drew := (Kp.refl _ _).drew
    generalize w3.drew = w4 at *
    have z4 := hn4.size
    have bR_4 := hn4.bk bR_3
    have bE_4 := hn4.bk bE_3
    have oA_4 := Lib.hid (oA_3.out.new (by omega) hn4)
    have oB_4 := Lib.hid (oB_3.out.new (by omega) hn4)
    have oX_4 := Lib.hid (oX_3.out.new hn4)
    have K4 := K3.nw hn4
    have r4 := r3.nw hn4
    clear bR_3 bE_3 oA_3 oB_3 oX_3 K3 r3 hn4
    have cE2 := cell_of_heap bE_4 2
    have lE := heap_lt bE_4
    refine AnyK.tw 0 rfl ?_
    try simp only [AP]
    refine AnyK.tk 1 rfl ?_
    try simp only [AP]
    refine AnyK.tw 2 rfl ?_
    try simp only [AP]
    refine AnyK.step (i := 3) (by kernel_rfl) rfl (fun K hK => ?_)
    go_simp
    obtain ⟨hn5, y5, bN_5⟩ := newb w4 (.cells #[.int .i64 (-1), .int .i64 256, .int .i64 12, .int .i64 1] 3)
    generalize w4.alloc (.cells #[.int .i64 (-1), .int .i64 256, .int .i64 12, .int .i64 1] 3) = w5 at *
    have z5 := hn5.size
    have bR_5 := hn5.bk bR_4
    have bE_5 := hn5.bk bE_4
    have oA_5 := Lib.hid (oA_4.out.new (by omega) hn5)
    have oB_5 := Lib.hid (oB_4.out.new (by omega) hn5)
    have oX_5 := Lib.hid (oX_4.out.new hn5)
    have K5 := K4.nw hn5
    have r5 := r4.nw hn5
    clear cE2 lE
    clear bR_4 bE_4 oA_4 oB_4 oX_4 K4 r4 hn5
    have cE2 := cell_of_heap bE_5 2
    have lE := heap_lt bE_5
    refine hK.out _ _ ?_ (fun hHeld2 => ?_)
    · exact cE2
    clear hK K hHeld
    have hHeld := hHeld2
    clear hHeld2
    try simp only [AP]
    refine AnyK.step (i := 4) (by kernel_rfl) rfl (fun K hK => ?_)
    go_simp
    have hNc := Lib.hid (fun i : Nat => cell_of_heap bN_5 i)
    have hNl := heap_lt bN_5
    have hNr := r5.lt
    refine (num w5 br (p + 1) (w4.heap.size) 4 _ (fun x => -1 ≤ x ∧ x ≤ 256) r5 (by omega) (by omega) (by omega) (by omega) ?_).mono ?_
    · intro i hi
      have hi2 := hNc.out i
      match i, hi with
      | 0, _ => exact ⟨_, by decide, hi2⟩
      | 1, _ => exact ⟨_, by decide, hi2⟩
      | 2, _ => exact ⟨_, by decide, hi2⟩
      | 3, _ => exact ⟨_, by decide, hi2⟩
    rintro e w6 ⟨y, rfl, ⟨y0, y1⟩, hn6, r6⟩
    clear hNc hNl hNr bN_5
    have z6 := hn6.size
    have bR_6 := hn6.bo bR_5
    have bE_6 := hn6.bo bE_5
    have oA_6 := Lib.hid (oA_5.out.kp hn6 (fun b e => by omega))
    have oB_6 := Lib.hid (oB_5.out.kp hn6 (fun b e => by omega))
    have oX_6 := Lib.hid (oX_5.out.kp hn6 (fun b e => by omega))
    have K6 := K5.trans hn6
    clear cE2 lE
    clear bR_5 bE_5 oA_5 oB_5 oX_5 K5 r5 hn6
    have cE2 := cell_of_heap bE_6 2
    have lE := heap_lt bE_6
    refine hK.out _ _ ?_ (fun hHeld2 => ?_)
    · exact cE2
    clear hK K hHeld
    have hHeld := hHeld2
    clear hHeld2
    try simp only [AP]
    refine AnyK.tw 5 rfl ?_
    try simp only [AP]
    refine AnyK.tw 6 rfl ?_
    try simp only [AP]
    refine AnyK.tw 7 rfl ?_
    try simp only [AP]
    refine AnyK.last (by kernel_rfl) ?_
    simp only [List.drop_succ_cons, List.drop_zero]
    clear hHeld
    clear cE2 lE
    obtain ⟨_, _, x1, ge, gl1, gl2, gc, gf, gs⟩ := SR_row oX_6.out 0 hjl
    cases ge
    have gc1 := gc 6 (by decide)
    have gf1 := gf (6)
    have gss := gs 6 (by decide) y (.node (l[0].kind) (l[0].target) (.node l[0].index.kind l[0].index.val l[0].index.kids) (.node l[0].value.kind (y) l[0].value.kids) (l[0].count) l[0].body l[0].els) (St.size_of (by rfl) (by rfl) (by rfl) (by rfl)) (SetAt.v)
    simp only [Nat.zero_mul, Nat.zero_add] at gc1 gss
    have hsz := gss.2
    have gx := Lib.hid gss.1
    have gln : (l.set 0 (.node (l[0].kind) (l[0].target) (.node l[0].index.kind l[0].index.val l[0].index.kids) (.node l[0].value.kind (y) l[0].value.kids) (l[0].count) l[0].body l[0].els)).length = l.length := by rw [List.length_set]
    generalize l.set 0 (.node (l[0].kind) (l[0].target) (.node l[0].index.kind l[0].index.val l[0].index.kids) (.node l[0].value.kind (y) l[0].value.kids) (l[0].count) l[0].body l[0].els) = m at *
    clear gc gf gs gss
    obtain ⟨cE0, cE1, cE2⟩ := cells3 bE_6
    have lE := heap_lt bE_6
    go_upto_region 24 with fail
    have hk7 : Kp (fun b => b = g) w6 (w6.setCell ⟨g, 6, none⟩ (.int .i64 y)) := (Kp.refl (fun b => b = g) _).setCell (.inl rfl) _
    have oX_7 := gx
    generalize (w6.setCell ⟨g, 6, none⟩ (.int .i64 y)) = w7 at *
    clear gc1 gf1 gx
    have z7 := hk7.size
    have bR_7 := hk7.bo bR_6
    have bE_7 := hk7.bo bE_6
    have oA_7 := Lib.hid (oA_6.out.kp hk7 (fun b e => by omega))
    have oB_7 := Lib.hid (oB_6.out.kp hk7 (fun b e => by omega))
    have K7 : One br w w7 := one_on K6 hk7 (by omega)
    have r7 := r6.kp hk7
    clear cE0 cE1 cE2 lE
    clear bR_6 bE_6 oA_6 oB_6 K6 r6 hk7
    clear oX_6
    obtain ⟨cE0, cE1, cE2⟩ := cells3 bE_7
    have lE := heap_lt bE_7
    obtain ⟨cR0, cR1, cR2⟩ := cells3 bR_7
    have fR := frozen_of_heap bR_7
    have lR := heap_lt bR_7
    go_wp2
    have hkz := setMany_kp (w.heap.size + 1) [.slice g1 xa.length t1, .slice g2 xb.length t2, .slice (some ⟨g, 0, none⟩) l.length t3] w7 0
    have zs := setMany_size (w.heap.size + 1) [.slice g1 xa.length t1, .slice g2 xb.length t2, .slice (some ⟨g, 0, none⟩) l.length t3] w7 0
    have hR := setMany_row [.slice g1 xa.length t1, .slice g2 xb.length t2, .slice (some ⟨g, 0, none⟩) l.length t3] bR_7 rfl
    exact bodyPost_ret (results_cell_row rfl _ _ _ _ _ _ _ rfl hR Try.underlying37 rfl (by kernel_rfl)) rfl ⟨_, _, _, xa, xb, m, _, rfl, one_on K7 hkz (by omega), r7.keep hkz (fun b e => by omega), by omega, ((oA_7.out.kp hkz (fun b e => by omega)).reads.mono (lo' := w.heap.size) (hi' := (setMany w7 (w.heap.size + 1) 0 [.slice g1 xa.length t1, .slice g2 xb.length t2, .slice (some ⟨g, 0, none⟩) l.length t3]).heap.size) (by omega) (by omega)), ((oB_7.out.kp hkz (fun b e => by omega)).reads.mono (lo' := w.heap.size) (hi' := (setMany w7 (w.heap.size + 1) 0 [.slice g1 xa.length t1, .slice g2 xb.length t2, .slice (some ⟨g, 0, none⟩) l.length t3]).heap.size) (by omega) (by omega)), ((oX_7.out.kp hkz (fun b e => by omega)).reads.mono (lo' := w.heap.size) (hi' := (setMany w7 (w.heap.size + 1) 0 [.slice g1 xa.length t1, .slice g2 xb.length t2, .slice (some ⟨g, 0, none⟩) l.length t3]).heap.size) (by omega) (by omega)), by omega, Nat.le_refl _, hsz⟩
  have hv4 : (u == 4) = false := by simpa using hu4
  by_cases hu5 : u = 5
  · subst hu5
    by_cases hx0 : l.length = 0
    · have hxl : decide (0 < l.length) = false := by simp [hx0]
      have hxm : decide ((0 : Int) < (l.length : Int)) = false := by simp [hx0]
      clear hx0
      obtain ⟨cE0, cE1, cE2⟩ := cells3 bE_3
      have lE := heap_lt bE_3
      obtain ⟨cR0, cR1, cR2⟩ := cells3 bR_3
      have fR := frozen_of_heap bR_3
      have lR := heap_lt bR_3
      go_wp2
      have hkz := setMany_kp (w.heap.size + 1) [.slice g1 xa.length t1, .slice g2 xb.length t2, .slice g3 l.length t3] w3 0
      have zs := setMany_size (w.heap.size + 1) [.slice g1 xa.length t1, .slice g2 xb.length t2, .slice g3 l.length t3] w3 0
      have hR := setMany_row [.slice g1 xa.length t1, .slice g2 xb.length t2, .slice g3 l.length t3] bR_3 rfl
      exact bodyPost_ret (results_cell_row rfl _ _ _ _ _ _ _ rfl hR Try.underlying37 rfl (by kernel_rfl)) rfl ⟨_, _, _, xa, xb, l, _, rfl, one_on K3 hkz (by omega), r3.keep hkz (fun b e => by omega), by omega, ((oA_3.out.kp hkz (fun b e => by omega)).reads.mono (lo' := w.heap.size) (hi' := (setMany w3 (w.heap.size + 1) 0 [.slice g1 xa.length t1, .slice g2 xb.length t2, .slice g3 l.length t3]).heap.size) (by omega) (by omega)), ((oB_3.out.kp hkz (fun b e => by omega)).reads.mono (lo' := w.heap.size) (hi' := (setMany w3 (w.heap.size + 1) 0 [.slice g1 xa.length t1, .slice g2 xb.length t2, .slice g3 l.length t3]).heap.size) (by omega) (by omega)), ((oX_3.out.kp hkz (fun b e => by omega)).reads.mono (lo' := w.heap.size) (hi' := (setMany w3 (w.heap.size + 1) 0 [.slice g1 xa.length t1, .slice g2 xb.length t2, .slice g3 l.length t3]).heap.size) (by omega) (by omega)), by omega, Nat.le_refl _, Nat.le_refl _⟩
    have hnl : 0 < (l.length : Int) := by omega
    have hxl : 0 < l.length := by omega
    clear hx0
    have hjl : 0 < l.length := hxl
    obtain ⟨g, cap, x0, ge, -, -, -⟩ := SR_row oX_3.out 0 hjl
    cases ge
    obtain ⟨cE0, cE1, cE2⟩ := cells3 bE_3
    have fE := frozen_of_heap bE_3
    have lE := heap_lt bE_3
    go_wp2_with fail
    refine wp_region_tail (k := 7) (S := fun w' => w'.cell? ⟨be, 2, none⟩ = some (.slice (some ⟨g, 0, none⟩) l.length t3)) (by kernel_rfl) ?_ (fun hHeld => ?_)
    · exact cE2
    clear cE0 cE1 cE2 fE lE
    have hn4 : New w3 w3.drew := (Kp.refl _ _).drew
    generalize w3.drew = w4 at *
    have z4 := hn4.size
    have bR_4 := hn4.bk bR_3
    have bE_4 := hn4.bk bE_3
    have oA_4 := Lib.hid (oA_3.out.new (by omega) hn4)
    have oB_4 := Lib.hid (oB_3.out.new (by omega) hn4)
    have oX_4 := Lib.hid (oX_3.out.new hn4)
    have K4 := K3.nw hn4
    have r4 := r3.nw hn4
    clear bR_3 bE_3 oA_3 oB_3 oX_3 K3 r3 hn4
    have cE2 := cell_of_heap bE_4 2
    have lE := heap_lt bE_4
    refine AnyK.tw 0 rfl ?_
    try simp only [AP]
    refine AnyK.tk 1 rfl ?_
    try simp only [AP]
    refine AnyK.tw 2 rfl ?_
    try simp only [AP]
    refine AnyK.step (i := 3) (by kernel_rfl) rfl (fun K hK => ?_)
    go_simp
    obtain ⟨hn5, y5, bN_5⟩ := newb w4 (.cells #[.int .i64 1, .int .i64 4, .int .i64 (-1), .int .i64 2] 3)
    generalize w4.alloc (.cells #[.int .i64 1, .int .i64 4, .int .i64 (-1), .int .i64 2] 3) = w5 at *
    have z5 := hn5.size
    have bR_5 := hn5.bk bR_4
    have bE_5 := hn5.bk bE_4
    have oA_5 := Lib.hid (oA_4.out.new (by omega) hn5)
    have oB_5 := Lib.hid (oB_4.out.new (by omega) hn5)
    have oX_5 := Lib.hid (oX_4.out.new hn5)
    have K5 := K4.nw hn5
    have r5 := r4.nw hn5
    clear cE2 lE
    clear bR_4 bE_4 oA_4 oB_4 oX_4 K4 r4 hn5
    have cE2 := cell_of_heap bE_5 2
    have lE := heap_lt bE_5
    refine hK.out _ _ ?_ (fun hHeld2 => ?_)
    · exact cE2
    clear hK K hHeld
    have hHeld := hHeld2
    clear hHeld2
    try simp only [AP]
    refine AnyK.step (i := 4) (by kernel_rfl) rfl (fun K hK => ?_)
    go_simp
    have hNc := Lib.hid (fun i : Nat => cell_of_heap bN_5 i)
    have hNl := heap_lt bN_5
    have hNr := r5.lt
    refine (num w5 br (p + 1) (w4.heap.size) 4 _ (fun x => -1 ≤ x ∧ x ≤ 4) r5 (by omega) (by omega) (by omega) (by omega) ?_).mono ?_
    · intro i hi
      have hi2 := hNc.out i
      match i, hi with
      | 0, _ => exact ⟨_, by decide, hi2⟩
      | 1, _ => exact ⟨_, by decide, hi2⟩
      | 2, _ => exact ⟨_, by decide, hi2⟩
      | 3, _ => exact ⟨_, by decide, hi2⟩
    rintro e w6 ⟨y, rfl, ⟨y0, y1⟩, hn6, r6⟩
    clear hNc hNl hNr bN_5
    have z6 := hn6.size
    have bR_6 := hn6.bo bR_5
    have bE_6 := hn6.bo bE_5
    have oA_6 := Lib.hid (oA_5.out.kp hn6 (fun b e => by omega))
    have oB_6 := Lib.hid (oB_5.out.kp hn6 (fun b e => by omega))
    have oX_6 := Lib.hid (oX_5.out.kp hn6 (fun b e => by omega))
    have K6 := K5.trans hn6
    clear cE2 lE
    clear bR_5 bE_5 oA_5 oB_5 oX_5 K5 r5 hn6
    have cE2 := cell_of_heap bE_6 2
    have lE := heap_lt bE_6
    refine hK.out _ _ ?_ (fun hHeld2 => ?_)
    · exact cE2
    clear hK K hHeld
    have hHeld := hHeld2
    clear hHeld2
    try simp only [AP]
    refine AnyK.tw 5 rfl ?_
    try simp only [AP]
    refine AnyK.tw 6 rfl ?_
    try simp only [AP]
    refine AnyK.last (by kernel_rfl) ?_
    simp only [List.drop_succ_cons, List.drop_zero]
    clear hHeld
    clear cE2 lE
    obtain ⟨_, _, x1, ge, gl1, gl2, gc, gf, gs⟩ := SR_row oX_6.out 0 hjl
    cases ge
    have gc1 := gc 8 (by decide)
    have gf1 := gf (8)
    have gss := gs 8 (by decide) y (.node (l[0].kind) (l[0].target) (.node l[0].index.kind l[0].index.val l[0].index.kids) (.node l[0].value.kind (l[0].value.val) l[0].value.kids) (y) l[0].body l[0].els) (St.size_of (by rfl) (by rfl) (by rfl) (by rfl)) (SetAt.c)
    simp only [Nat.zero_mul, Nat.zero_add] at gc1 gss
    have hsz := gss.2
    have gx := Lib.hid gss.1
    have gln : (l.set 0 (.node (l[0].kind) (l[0].target) (.node l[0].index.kind l[0].index.val l[0].index.kids) (.node l[0].value.kind (l[0].value.val) l[0].value.kids) (y) l[0].body l[0].els)).length = l.length := by rw [List.length_set]
    generalize l.set 0 (.node (l[0].kind) (l[0].target) (.node l[0].index.kind l[0].index.val l[0].index.kids) (.node l[0].value.kind (l[0].value.val) l[0].value.kids) (y) l[0].body l[0].els) = m at *
    clear gc gf gs gss
    obtain ⟨cE0, cE1, cE2⟩ := cells3 bE_6
    have lE := heap_lt bE_6
    go_upto_region 24 with fail
    have hk7 : Kp (fun b => b = g) w6 (w6.setCell ⟨g, 8, none⟩ (.int .i64 y)) := (Kp.refl (fun b => b = g) _).setCell (.inl rfl) _
    have oX_7 := gx
    generalize (w6.setCell ⟨g, 8, none⟩ (.int .i64 y)) = w7 at *
    clear gc1 gf1 gx
    have z7 := hk7.size
    have bR_7 := hk7.bo bR_6
    have bE_7 := hk7.bo bE_6
    have oA_7 := Lib.hid (oA_6.out.kp hk7 (fun b e => by omega))
    have oB_7 := Lib.hid (oB_6.out.kp hk7 (fun b e => by omega))
    have K7 : One br w w7 := one_on K6 hk7 (by omega)
    have r7 := r6.kp hk7
    clear cE0 cE1 cE2 lE
    clear bR_6 bE_6 oA_6 oB_6 K6 r6 hk7
    clear oX_6
    obtain ⟨cE0, cE1, cE2⟩ := cells3 bE_7
    have lE := heap_lt bE_7
    obtain ⟨cR0, cR1, cR2⟩ := cells3 bR_7
    have fR := frozen_of_heap bR_7
    have lR := heap_lt bR_7
    go_wp2
    have hkz := setMany_kp (w.heap.size + 1) [.slice g1 xa.length t1, .slice g2 xb.length t2, .slice (some ⟨g, 0, none⟩) l.length t3] w7 0
    have zs := setMany_size (w.heap.size + 1) [.slice g1 xa.length t1, .slice g2 xb.length t2, .slice (some ⟨g, 0, none⟩) l.length t3] w7 0
    have hR := setMany_row [.slice g1 xa.length t1, .slice g2 xb.length t2, .slice (some ⟨g, 0, none⟩) l.length t3] bR_7 rfl
    exact bodyPost_ret (results_cell_row rfl _ _ _ _ _ _ _ rfl hR Try.underlying37 rfl (by kernel_rfl)) rfl ⟨_, _, _, xa, xb, m, _, rfl, one_on K7 hkz (by omega), r7.keep hkz (fun b e => by omega), by omega, ((oA_7.out.kp hkz (fun b e => by omega)).reads.mono (lo' := w.heap.size) (hi' := (setMany w7 (w.heap.size + 1) 0 [.slice g1 xa.length t1, .slice g2 xb.length t2, .slice (some ⟨g, 0, none⟩) l.length t3]).heap.size) (by omega) (by omega)), ((oB_7.out.kp hkz (fun b e => by omega)).reads.mono (lo' := w.heap.size) (hi' := (setMany w7 (w.heap.size + 1) 0 [.slice g1 xa.length t1, .slice g2 xb.length t2, .slice (some ⟨g, 0, none⟩) l.length t3]).heap.size) (by omega) (by omega)), ((oX_7.out.kp hkz (fun b e => by omega)).reads.mono (lo' := w.heap.size) (hi' := (setMany w7 (w.heap.size + 1) 0 [.slice g1 xa.length t1, .slice g2 xb.length t2, .slice (some ⟨g, 0, none⟩) l.length t3]).heap.size) (by omega) (by omega)), by omega, Nat.le_refl _, hsz⟩
  have hv5 : (u == 5) = false := by simpa using hu5
  by_cases hu6 : u = 6
  · subst hu6
    obtain ⟨cR0, cR1, cR2⟩ := cells3 bR_3
    have fR := frozen_of_heap bR_3
    have lR := heap_lt bR_3
    go_wp2
    have hkz := setMany_kp (w.heap.size + 1) [.slice none 0 0, .slice none 0 0, .slice none 0 0] w3 0
    have zs := setMany_size (w.heap.size + 1) [.slice none 0 0, .slice none 0 0, .slice none 0 0] w3 0
    have hR := setMany_row [.slice none 0 0, .slice none 0 0, .slice none 0 0] bR_3 rfl
    exact bodyPost_ret (results_cell_row rfl _ _ _ _ _ _ _ rfl hR Try.underlying37 rfl (by kernel_rfl)) rfl ⟨_, _, _, [], [], [], _, rfl, one_on K3 hkz (by omega), r3.keep hkz (fun b e => by omega), by omega, .nil _ _, .nil _ _, .nil _ _, by simp, by simp, by simp [St.sizes]⟩
  have hv6 : (u == 6) = false := by simpa using hu6
  obtain ⟨cE0, cE1, cE2⟩ := cells3 bE_3
  have lE := heap_lt bE_3
  obtain ⟨cE0, cE1, cE2⟩ := cells3 bE_3
  have lE := heap_lt bE_3
  obtain ⟨cR0, cR1, cR2⟩ := cells3 bR_3
  have fR := frozen_of_heap bR_3
  have lR := heap_lt bR_3
  go_wp2
  have hkz := setMany_kp (w.heap.size + 1) [.slice g1 xa.length t1, .slice g2 xb.length t2, .slice g3 l.length t3] w3 0
  have zs := setMany_size (w.heap.size + 1) [.slice g1 xa.length t1, .slice g2 xb.length t2, .slice g3 l.length t3] w3 0
  have hR := setMany_row [.slice g1 xa.length t1, .slice g2 xb.length t2, .slice g3 l.length t3] bR_3 rfl
  exact bodyPost_ret (results_cell_row rfl _ _ _ _ _ _ _ rfl hR Try.underlying37 rfl (by kernel_rfl)) rfl ⟨_, _, _, xa, xb, l, _, rfl, one_on K3 hkz (by omega), r3.keep hkz (fun b e => by omega), by omega, ((oA_3.out.kp hkz (fun b e => by omega)).reads.mono (lo' := w.heap.size) (hi' := (setMany w3 (w.heap.size + 1) 0 [.slice g1 xa.length t1, .slice g2 xb.length t2, .slice g3 l.length t3]).heap.size) (by omega) (by omega)), ((oB_3.out.kp hkz (fun b e => by omega)).reads.mono (lo' := w.heap.size) (hi' := (setMany w3 (w.heap.size + 1) 0 [.slice g1 xa.length t1, .slice g2 xb.length t2, .slice g3 l.length t3]).heap.size) (by omega) (by omega)), ((oX_3.out.kp hkz (fun b e => by omega)).reads.mono (lo' := w.heap.size) (hi' := (setMany w3 (w.heap.size + 1) 0 [.slice g1 xa.length t1, .slice g2 xb.length t2, .slice g3 l.length t3]).heap.size) (by omega) (by omega)), by omega, Nat.le_refl _, Nat.le_refl _⟩
end Go.Proofs.Ytckikiaockkmbaa.Mut
