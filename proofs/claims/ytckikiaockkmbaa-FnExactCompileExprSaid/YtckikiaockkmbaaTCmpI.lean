/- The compiler of impl: the variable that it writes, and how an instruction is added. Conditions: bounds on lengths. -/
import Derived.Test.YtckikiaockkmbaaTCmpS
import Derived.Great.Walk
import Derived.Test.YtckikiaockkmbaaTP1
namespace Go.Proofs.Ytckikiaockkmbaa.CmpI
open Go.RowKit Kit Val CmpP
set_option linter.unusedVariables false
/-- what is true on the way of a compilation: the variable at p holds the rows ul (code L) and uf -/
def CI (w : World) (base p : Nat) (vl vf : Value) (L : List Ins) (ul uf : Value) (o n : Int) (wr : World) : Prop := ∃ F : List Int, Kp (fun c => c = p ∨ vl.ownBlock = some c ∨ vf.ownBlock = some c) w wr ∧ wr.heap[p]? = some (.cells #[ul, uf, .int .i64 o, .int .i64 n] 111 (0, 0)) ∧
  OwnF 5 encN wr base 76 ul L ∧ OwnF 1 encI wr base 3 uf F ∧ F.length = L.length ∧ Grew w vl ul ∧ Grew w vf uf
section
variable {w wr w2 : World} {base p : Nat} {vl vf ul uf tl tf : Value} {L M : List Ins} {o n o' n' : Int}
theorem CI.size (h : CI w base p vl vf L ul uf o n wr) : w.heap.size ≤ wr.heap.size := by obtain ⟨F, K, _⟩ := h; exact K.size
theorem CI.start (h : CI w base p vl vf L ul uf o n wr) : CI wr base p ul uf L ul uf o n wr := by
  obtain ⟨F, K, P, A, B, hl, g1, g2⟩ := h
  exact ⟨F, Kp.refl _ _, P, A, B, hl, Grew.refl _ _, Grew.refl _ _⟩
theorem CI.trans (h : CI w base p vl vf L ul uf o n wr) (k : CI wr base p ul uf M tl tf o' n' w2) : CI w base p vl vf M tl tf o' n' w2 := by
  obtain ⟨F, K, P, A, B, hl, g1, g2⟩ := h
  obtain ⟨F', K', P', A', B', hl', g1', g2'⟩ := k
  refine ⟨F', K.over K' fun i q => ?_, P', A', B', hl', g1.trans g1' K.size, g2.trans g2' K.size⟩
  rcases q with q | q | q
  · exact .inl (.inl q)
  · exact (g1 i q).elim (fun e => .inl (.inr (.inl e))) .inr
  · exact (g2 i q).elim (fun e => .inl (.inr (.inr e))) .inr
theorem CI.new (h : CI w base p vl vf L ul uf o n wr) (k : New wr w2) : CI w base p vl vf L ul uf o n w2 := by
  obtain ⟨F, K, P, A, B, hl, g1, g2⟩ := h
  exact ⟨F, K.nw' k, heap_new k P, A.new k, B.new k, hl, g1, g2⟩
theorem CI.cells (h : CI w base p vl vf L ul uf o n wr) : wr.heap[p]? = some (.cells #[ul, uf, .int .i64 o, .int .i64 n] 111 (0, 0)) := by obtain ⟨F, K, P, _⟩ := h; exact P
/-- a box of another type stands -/
theorem CI.box (h : CI wr base p ul uf M tl tf o' n' w2) (h0 : CI wr base p ul uf L ul uf o n wr) {c : Nat} {cs : Array Value} {T' : TypeId} {f : Nat × Nat} (hc : wr.heap[c]? = some (.cells cs T' f)) (h1 : 76 ≠ T') (h2 : 3 ≠ T') (h3 : 111 ≠ T') : w2.heap[c]? = some (.cells cs T' f) := by
  obtain ⟨F, K, _⟩ := h
  obtain ⟨F0, _, P0, A0, B0, _⟩ := h0
  refine (K.block c (heap_lt hc) fun q => ?_).trans hc
  rcases q with q | q | q
  · subst q; rw [P0] at hc; cases hc; exact h3 rfl
  · exact OwnF.box A0 hc h1 q
  · exact OwnF.box B0 hc h2 q
theorem CI.low (h : CI w base p vl vf L ul uf o n wr) : (∀ b, ul.ownBlock = some b → base ≤ b ∧ b < wr.heap.size) ∧ ∀ b, uf.ownBlock = some b → base ≤ b ∧ b < wr.heap.size := by
  obtain ⟨F, K, P, A, B, _⟩ := h
  exact ⟨fun b hb => A.lt b hb, fun b hb => B.lt b hb⟩
theorem CI.keepR (h : CI w base p vl vf L ul uf o n wr) (h0 : CI w base p vl vf M vl vf o' n' w) (hp : base ≤ p) {k : Nat} (hk : k < base) (hw : k < w.heap.size) : wr.heap[k]? = w.heap[k]? := by
  obtain ⟨F, K, _⟩ := h
  exact K.block k hw fun q => by
    rcases q with q | q | q
    · omega
    · have := h0.low.1 k q; omega
    · have := h0.low.2 k q; omega
theorem CI.kids {lo hi : Nat} {s : Value} {ks : List Ex} (h : CI w base p vl vf L ul uf o n wr) (h0 : CI w base p vl vf M vl vf o' n' w) (hp : base ≤ p) (h2 : hi ≤ base) (h3 : hi ≤ w.heap.size) (hs : KidsR w lo hi s ks) : KidsR wr lo hi s ks := hs.keep fun k _ h2' => h.keepR h0 hp (by omega) (by omega)
theorem CI.sts {lo hi : Nat} {s : Value} {l : List St} (h : CI w base p vl vf L ul uf o n wr) (h0 : CI w base p vl vf M vl vf o' n' w) (hp : base ≤ p) (h2 : hi ≤ base) (h3 : hi ≤ w.heap.size) (hs : StsR w lo hi s l) : StsR wr lo hi s l := hs.keep fun k _ h2' => h.keepR h0 hp (by omega) (by omega)
theorem CI.low2 (h : CI w base p vl vf L ul uf o n wr) (h0 : CI w base p vl vf M vl vf o' n' w) (hp : base ≤ p) {b : Nat} (hb : b < base) (hw : b < w.heap.size) (i : Nat) : wr.cell? ⟨b, i, none⟩ = w.cell? ⟨b, i, none⟩ := World.cell?_of_block (w := w) (h.keepR h0 hp hb hw)
theorem CI.lens (h : CI w base p vl vf L ul uf o n wr) : (∃ a d, ul = .slice a L.length d) ∧ ∃ a d, uf = .slice a L.length d := by
  obtain ⟨F, K, P, A, B, hl, _⟩ := h
  obtain ⟨a, d, rfl, _⟩ := A.reads.len
  obtain ⟨a', d', rfl, _⟩ := B.reads.len
  exact ⟨⟨a, d, rfl⟩, a', d', by rw [hl]⟩
/-- a box is written -/
theorem CI.one (h : CI w base p vl vf L ul uf o n wr) {c : Nat} {cs : Array Value} {T' : TypeId} {f : Nat × Nat} (hc : wr.heap[c]? = some (.cells cs T' f)) (k : Kp (fun i => i = c) wr w2) (hb : w.heap.size ≤ c) (h1 : 76 ≠ T') (h2 : 3 ≠ T') (h3 : 111 ≠ T') : CI w base p vl vf L ul uf o n w2 := by
  obtain ⟨F, K, P, A, B, hl, g1, g2⟩ := h
  refine ⟨F, K.over k fun i q => .inr (by omega), (k.block p (heap_lt P) fun e => ?_).trans P, A.kp k fun i q e => OwnF.box A hc h1 (e ▸ q), B.kp k fun i q e => OwnF.box B hc h2 (e ▸ q), hl, g1, g2⟩
  subst e; rw [P] at hc; cases hc; exact h3 rfl
/-- a number of the variable is written -/
theorem CI.num (h : CI w base p vl vf L ul uf o n wr) {j : Nat} {v : Value} (hj : (#[ul, uf, .int .i64 o, .int .i64 n] : Array Value).setIfInBounds j v = #[ul, uf, .int .i64 o', .int .i64 n']) : CI w base p vl vf L ul uf o' n' (wr.setCell ⟨p, j, none⟩ v) := by
  obtain ⟨F, K, P, A, B, hl, g1, g2⟩ := h
  have k : Kp (fun i => i = p) wr (wr.setCell ⟨p, j, none⟩ v) := (Kp.refl (fun i => i = p) _).setCell (.inl rfl) _
  exact ⟨F, K.over k fun i q => .inl (.inl q), by rw [setCell_heap P, hj], A.kp k fun i q e => OwnF.box A P (by decide) (e ▸ q), B.kp k fun i q e => OwnF.box B P (by decide) (e ▸ q), hl, g1, g2⟩
end
set_option maxHeartbeats 1000000 in
theorem withF (w : World) (op c0 c1 c2 c3 : Int) (b d : Nat) (h0 : w.cell? ⟨b, 0, none⟩ = some (.int .i64 c0)) (h1 : w.cell? ⟨b, 1, none⟩ = some (.int .i64 c1)) (h2 : w.cell? ⟨b, 2, none⟩ = some (.int .i64 c2)) (h3 : w.cell? ⟨b, 3, none⟩ = some (.int .i64 c3)) :
    Calls Try.prog 137 #[.agg #[.int .i64 op, .int .i64 0, .int .i64 0, .int .i64 0, .int .i64 0], .slice (some ⟨b, 0, none⟩) 4 d] w fun e w' => e = .returned (.agg #[.int .i64 op, .int .i64 c0, .int .i64 c1, .int .i64 c2, .int .i64 c3]) ∧ New w w' := by
  have hb := cell_lt h0
  have N0 : New w ((w.alloc (.cells #[.int .i64 op, .int .i64 0, .int .i64 0, .int .i64 0, .int .i64 0] 76)).alloc (.cells #[.int .i64 0, .int .i64 0, .int .i64 0, .int .i64 0, .int .i64 0] 76)) := ((Kp.refl _ _).alloc _).alloc _
  have bX : ((w.alloc (.cells #[.int .i64 op, .int .i64 0, .int .i64 0, .int .i64 0, .int .i64 0] 76)).alloc (.cells #[.int .i64 0, .int .i64 0, .int .i64 0, .int .i64 0, .int .i64 0] 76)).heap[w.heap.size]? = some (.cells #[.int .i64 op, .int .i64 0, .int .i64 0, .int .i64 0, .int .i64 0] 76) := heap_old (alloc_heap _ _)
  have bR : ((w.alloc (.cells #[.int .i64 op, .int .i64 0, .int .i64 0, .int .i64 0, .int .i64 0] 76)).alloc (.cells #[.int .i64 0, .int .i64 0, .int .i64 0, .int .i64 0, .int .i64 0] 76)).heap[w.heap.size + 1]? = some (.cells #[.int .i64 0, .int .i64 0, .int .i64 0, .int .i64 0, .int .i64 0] 76) := heap_at (by simp)
  have z0 : w.heap.size + 1 < ((w.alloc (.cells #[.int .i64 op, .int .i64 0, .int .i64 0, .int .i64 0, .int .i64 0] 76)).alloc (.cells #[.int .i64 0, .int .i64 0, .int .i64 0, .int .i64 0, .int .i64 0] 76)).heap.size := by simp
  have e0 := (N0.cell hb (fun f => f) 0).trans h0
  have e1 := (N0.cell hb (fun f => f) 1).trans h1
  have e2 := (N0.cell hb (fun f => f) 2).trans h2
  have e3 := (N0.cell hb (fun f => f) 3).trans h3
  clear h0 h1 h2 h3
  go_enter Try.func137, Try.ntmps137
  go_upto_region 1 with fail
  generalize ((w.alloc (.cells #[.int .i64 op, .int .i64 0, .int .i64 0, .int .i64 0, .int .i64 0] 76)).alloc (.cells #[.int .i64 0, .int .i64 0, .int .i64 0, .int .i64 0, .int .i64 0] 76)) = w0 at *
  have cX0 := cell_of_heap bX 0
  obtain ⟨cR0, cR1, cR2, cR3, cR4⟩ := cells5 bR
  have cRf := frozen_of_heap bR
  set_option maxRecDepth 100000 in go_still_tail 15, (by kernel_rfl)
  change wpList _ _ _ _ _ w0.drew
  have kd : New w0 w0.drew := (Kp.refl _ _).drew
  have N1 := N0.trans kd
  have bR1 := heap_new kd bR
  have z1 := kd.size
  have g0 := (kd.cell (cell_lt e0) (fun f => f) 0).trans e0
  have g1 := (kd.cell (cell_lt e0) (fun f => f) 1).trans e1
  have g2 := (kd.cell (cell_lt e0) (fun f => f) 2).trans e2
  have g3 := (kd.cell (cell_lt e0) (fun f => f) 3).trans e3
  have gX := (kd.cell (cell_lt cX0) (fun f => f) 0).trans cX0
  generalize w0.drew = w1 at *
  obtain ⟨cS0, cS1, cS2, cS3, cS4⟩ := cells5 bR1
  have cSf := frozen_of_heap bR1
  have cSl := heap_lt bR1
  clear cR0 cR1 cR2 cR3 cR4 cRf e0 e1 e2 e3 cX0
  go_wp2
  have hkz := setMany_kp (w.heap.size + 1) [.int .i64 op, .int .i64 c0, .int .i64 c1, .int .i64 c2, .int .i64 c3] w1 0
  have hR := setMany_row [.int .i64 op, .int .i64 c0, .int .i64 c1, .int .i64 c2, .int .i64 c3] bR1 rfl
  refine bodyPost_ret (results_cell_row rfl _ _ _ _ _ _ _ rfl hR Try.underlying76 rfl (by kernel_rfl)) rfl ?_
  exact ⟨rfl, New.on N1 hkz (by intro i e; omega)⟩
section
variable {w wr w2 : World} {base p : Nat} {vl vf ul uf : Value} {L : List Ins} {o n : Int}
/-- another row of ints is turned -/
theorem CI.row (h : CI w base p vl vf L ul uf o n wr) {bx : Nat} {v : Value} {xs : List Int} (hx : OwnF 1 encI wr bx 3 v xs) (h0 : w.heap.size ≤ bx) (hb : ∀ b, uf.ownBlock = some b → b < bx) (k : Kp (fun c => v.ownBlock = some c) wr w2) : CI w base p vl vf L ul uf o n w2 := by
  obtain ⟨F, K, P, A, B, hl, g1, g2⟩ := h
  refine ⟨F, K.over k fun i q => .inr (by have := (hx.lt i q).1; omega), (k.block p (heap_lt P) fun e => OwnF.box hx P (by decide) e).trans P, A.kp k fun c e1 e2 => OwnF.apart A hx (by decide) c e1 e2, B.kp k fun c e1 e2 => by have := hb c e1; have := (hx.lt c e2).1; omega, hl, g1, g2⟩
end
/-- the instruction of an operation and its fields -/
def insOf (op : Int) (xs : List Int) : Ins := ⟨op, xs[0]?.getD 0, xs[1]?.getD 0, xs[2]?.getD 0, xs[3]?.getD 0⟩
theorem z4 : ∀ (j : Nat) (h : j < [(0 : Int), 0, 0, 0].length), encI [(0 : Int), 0, 0, 0][j] 0 = Value.int .i64 ((none : Option Int).getD 0)
  | 0, _ => rfl
  | 1, _ => rfl
  | 2, _ => rfl
  | 3, _ => rfl
theorem fields {w : World} {bx : Nat} {v : Value} {xs : List Int} (h : OwnF 1 encI w bx 3 v (xs ++ [0, 0, 0, 0])) (hl : xs.length ≤ 4) : ∃ b d, v = .slice (some ⟨b, 0, none⟩) (xs.length + 4) d ∧ xs.length + 4 ≤ d ∧ d ≤ maxLen ∧
    w.cell? ⟨b, 0, none⟩ = some (.int .i64 (xs[0]?.getD 0)) ∧ w.cell? ⟨b, 1, none⟩ = some (.int .i64 (xs[1]?.getD 0)) ∧ w.cell? ⟨b, 2, none⟩ = some (.int .i64 (xs[2]?.getD 0)) ∧ w.cell? ⟨b, 3, none⟩ = some (.int .i64 (xs[3]?.getD 0)) := by
  rcases h.form with ⟨e, _⟩ | ⟨b, cap, cs, e, _, hc, hm, hh, hs, hcs⟩
  · simp at e
  · have g : ∀ i, i < 4 → w.cell? ⟨b, i, none⟩ = some (.int .i64 (xs[i]?.getD 0)) := fun i hi => by
      have hi2 : i < (xs ++ [0, 0, 0, 0]).length := by simp; omega
      have := hcs i hi2 0 (by decide)
      rw [cell_of_heap hh]
      simp only [Nat.mul_one, Nat.add_zero] at this
      rw [this]
      congr 1
      by_cases q : i < xs.length
      · rw [List.getElem_append_left q, List.getElem?_eq_getElem q]; rfl
      · rw [List.getElem_append_right (by omega), List.getElem?_eq_none (by omega)]
        exact z4 (i - xs.length) _
    simp only [List.length_append, List.length_cons, List.length_nil] at e hc
    exact ⟨b, cap, e, by omega, hm, g 0 (by decide), g 1 (by decide), g 2 (by decide), g 3 (by decide)⟩
set_option maxHeartbeats 16000000 in
set_option maxRecDepth 100000 in
theorem emit {w0 w : World} {base p bx : Nat} {vl vf ul uf vx : Value} {L : List Ins} {o n : Int} (op : Int) (xs : List Int) (h : CI w0 base p vl vf L ul uf o n w) (hbase : base ≤ w.heap.size) (hp : p < w.heap.size) (hx : OwnF 1 encI w bx 3 vx xs) (h0 : w0.heap.size ≤ bx) (hbx : bx ≤ w.heap.size) (hb : ∀ b, uf.ownBlock = some b → b < bx) (hl : xs.length ≤ 4) (hL : L.length ≤ 1000000) :
    Calls Try.prog 115 #[.pointer (some ⟨p, 0, none⟩), .int .i64 op, vx] w fun e w' => e = .returned (.tuple #[]) ∧ ∃ ul' uf', CI w0 base p vl vf (L ++ [insOf op xs]) ul' uf' o n w' := by
  obtain ⟨⟨a1, d1, rfl⟩, a2, d2, rfl⟩ := h.lens
  have cP0 := cell_of_heap h.cells 0
  have hh := Lib.hid h
  have hxh := Lib.hid hx
  have hbh := Lib.hid hb
  clear h hx hb
  go_enter Try.func115, Try.ntmps115
  go_upto_region 0 with fail
  refine wp_region_tail (k := 16) (S := fun w' => w'.cell? ⟨p, 0, none⟩ = some (.slice a1 L.length d1)) (by kernel_rfl) ?_ (fun hHeld => ?_)
  · exact cP0
  have k1 : New w w.drew := (Kp.refl _ _).drew
  have C1 := Lib.hid (hh.out.new k1)
  have x1 := Lib.hid (hxh.out.new k1)
  have z1 := k1.size
  generalize w.drew = w1 at *
  clear k1 cP0 hh hxh
  refine AnyK.tw 0 rfl ?_
  try simp only [AP]
  refine AnyK.tw 1 rfl ?_
  try simp only [AP]
  refine AnyK.tw 2 rfl ?_
  try simp only [AP]
  refine AnyK.tw 3 rfl ?_
  try simp only [AP]
  refine AnyK.tk 4 rfl ?_
  try simp only [AP]
  refine AnyK.tw 5 rfl ?_
  try simp only [AP]
  refine AnyK.tw 6 rfl ?_
  try simp only [AP]
  refine AnyK.tw 7 rfl ?_
  try simp only [AP]
  refine AnyK.step (i := 8) (by kernel_rfl) rfl (fun K hK => ?_)
  go_simp
  have k2 : New w1 (w1.alloc (.cells #[.int .i64 0, .int .i64 0, .int .i64 0, .int .i64 0] 3)) := (Kp.refl _ _).alloc _
  have bZ := alloc_heap w1 (.cells #[.int .i64 0, .int .i64 0, .int .i64 0, .int .i64 0] 3)
  have C2 := Lib.hid (C1.out.new k2)
  have x2 := Lib.hid (x1.out.new k2)
  have z2 := k2.size
  generalize w1.alloc (.cells #[.int .i64 0, .int .i64 0, .int .i64 0, .int .i64 0] 3) = w2 at *
  have hz := Lib.hid (show FlR 1 encI w2 w1.heap.size w2.heap.size (.slice (some ⟨w1.heap.size, 0, none⟩) 4 4) [0, 0, 0, 0] from FlR.cons w1.heap.size 0 4 [0, 0, 0, 0] (by decide) (Nat.le_refl _) (heap_lt bZ) (Nat.le_refl _) (by decide) (fun i hi t ht => by
    obtain rfl : t = 0 := by omega
    exact match i, hi with | 0, _ => cell_of_heap bZ 0 | 1, _ => cell_of_heap bZ 1 | 2, _ => cell_of_heap bZ 2 | 3, _ => cell_of_heap bZ 3))
  clear k2 bZ C1 x1
  have cP2 := cell_of_heap C2.out.cells 0
  refine hK.out _ _ ?_ (fun hHeld2 => ?_)
  · exact cP2
  clear hK K hHeld
  have hHeld := hHeld2
  clear hHeld2
  try simp only [AP]
  refine AnyK.step (i := 9) (by kernel_rfl) rfl (fun K hK => ?_)
  refine step_pushes rfl (.tmp 13) (.tmp 14) 34 rfl bx 3 _ 8 Try.underlying34 LawF.infoI rfl (by decide) vx xs rfl x2.out _ [0, 0, 0, 0] rfl hz.out (fun _ _ _ => rfl) ?_ ?_ ?_ ?_
  · simp only [List.length_cons, List.length_nil]; omega
  · simp only [List.length_cons, List.length_nil]; omega
  · omega
  intro v3 w3 hv3 hp3 ha3
  have C3 := Lib.hid (C2.out.row x2.out h0 hbh.out hp3)
  have z3 := hp3.size
  obtain ⟨b3, d3, rfl, hd3, hd3m, q0, q1, q2, q3⟩ := fields hv3 hl
  clear hv3 hp3 ha3 C2 x2 hz cP2
  have cP3 := cell_of_heap C3.out.cells 0
  have hd4 : (4 : Int) ≤ (d3 : Int) := by omega
  refine hK.out _ _ ?_ (fun hHeld2 => ?_)
  · exact cP3
  clear hK K hHeld
  have hHeld := hHeld2
  clear hHeld2
  try simp only [AP]
  refine AnyK.tw 10 rfl ?_
  try simp only [AP]
  refine AnyK.step (i := 11) (by kernel_rfl) rfl (fun K hK => ?_)
  go_simp
  refine (withF w3 op _ _ _ _ b3 d3 q0 q1 q2 q3).mono ?_
  rintro e w4 ⟨rfl, k4⟩
  have C4 := Lib.hid (C3.out.new k4)
  have z4 := k4.size
  clear k4 q0 q1 q2 q3 C3 cP3
  have cP4 := cell_of_heap C4.out.cells 0
  refine hK.out _ _ ?_ (fun hHeld2 => ?_)
  · exact cP4
  clear hK K hHeld
  have hHeld := hHeld2
  clear hHeld2
  try simp only [AP]
  refine AnyK.step (i := 12) (by kernel_rfl) rfl (fun K hK => ?_)
  go_simp
  have k5 : New w4 (w4.alloc (.cells #[.int .i64 op, .int .i64 (xs[0]?.getD 0), .int .i64 (xs[1]?.getD 0), .int .i64 (xs[2]?.getD 0), .int .i64 (xs[3]?.getD 0)] 76)) := (Kp.refl _ _).alloc _
  have bI := alloc_heap w4 (.cells #[.int .i64 op, .int .i64 (xs[0]?.getD 0), .int .i64 (xs[1]?.getD 0), .int .i64 (xs[2]?.getD 0), .int .i64 (xs[3]?.getD 0)] 76)
  have C5 := Lib.hid (C4.out.new k5)
  have z5 := k5.size
  generalize w4.alloc (.cells #[.int .i64 op, .int .i64 (xs[0]?.getD 0), .int .i64 (xs[1]?.getD 0), .int .i64 (xs[2]?.getD 0), .int .i64 (xs[3]?.getD 0)] 76) = w5 at *
  have hi := Lib.hid (FlR.one (w := w5) (b := w4.heap.size) (n := 5) (enc := encN) (y := insOf op xs) fun t ht => match t, ht with | 0, _ => cell_of_heap bI 0 | 1, _ => cell_of_heap bI 1 | 2, _ => cell_of_heap bI 2 | 3, _ => cell_of_heap bI 3 | 4, _ => cell_of_heap bI 4)
  clear k5 bI C4 cP4
  have cP5 := cell_of_heap C5.out.cells 0
  refine hK.out _ _ ?_ (fun hHeld2 => ?_)
  · exact cP5
  clear hK K hHeld
  have hHeld := hHeld2
  clear hHeld2
  try simp only [AP]
  refine AnyK.step (i := 13) (by kernel_rfl) rfl (fun K hK => ?_)
  obtain ⟨F, K5, P5, A5, B5, hF, g1, g2⟩ := C5.out
  have A5h := Lib.hid A5
  have B5h := Lib.hid B5
  have K5h := Lib.hid K5
  have P5h := Lib.hid P5
  have hFh := Lib.hid hF
  have g1h := Lib.hid g1
  have g2h := Lib.hid g2
  clear A5 B5 K5 P5 hF g1 g2 C5
  refine step_pushes rfl (.tmp 10) (.tmp 18) 52 rfl base 76 _ 40 Try.underlying52 CmpS.infoInstr rfl (by decide) (.slice a1 L.length d1) L rfl A5h.out _ [insOf op xs] rfl hi.out (fun q _ => CmpS.oneN q) ?_ ?_ ?_ ?_
  · simp only [List.length_cons, List.length_nil]; omega
  · simp only [List.length_cons, List.length_nil]; omega
  · omega
  intro v6 w6 hv6 hp6 ha6
  have z6 := hp6.size
  have P6 := Lib.hid ((hp6.block p (heap_lt P5h.out) fun e => OwnF.box A5h.out P5h.out (by decide) e).trans P5h.out)
  have B6 := Lib.hid (B5h.out.kp hp6 fun c e1 e2 => OwnF.apart A5h.out B5h.out (by decide) c e2 e1)
  have g6 := Lib.hid (g1h.out.trans (Grew.of ha6) K5h.out.size)
  have K6 := Lib.hid (K5h.out.over hp6 fun i q => (g1h.out i q).elim (fun e => .inl (.inr (.inl e))) .inr)
  have A6 := Lib.hid hv6
  obtain ⟨a6, d6, e6, _⟩ := hv6.reads.len
  have hl6 : (L ++ [insOf op xs]).length = L.length + 1 := by simp
  rw [hl6] at e6
  subst e6
  clear hv6 hp6 ha6 A5h B5h K5h P5h g1h hi cP5 hl6
  have cP6 := cell_of_heap P6.out 0
  refine hK.out _ _ ?_ (fun hHeld2 => ?_)
  · exact cP6
  clear hK K hHeld
  have hHeld := hHeld2
  clear hHeld2
  try simp only [AP]
  refine AnyK.tw 14 rfl ?_
  try simp only [AP]
  refine AnyK.tw 15 rfl ?_
  try simp only [AP]
  refine AnyK.last (by kernel_rfl) ?_
  simp only [List.drop_succ_cons, List.drop_zero]
  clear hHeld
  have fP := frozen_of_heap P6.out
  have lP := heap_lt P6.out
  have k7 : Kp (fun c => c = p) w6 (w6.setCell ⟨p, 0, none⟩ (.slice a6 (L.length + 1) d6)) := (Kp.refl (fun c => c = p) _).setCell (.inl rfl) _
  have P7 := Lib.hid (setCell_heap (o := 0) P6.out (.slice a6 (L.length + 1) d6))
  have hq1 := Lib.hid (OwnF.box A6.out P6.out (by decide))
  have hq2 := Lib.hid (OwnF.box B6.out P6.out (by decide))
  have A7 := Lib.hid (A6.out.kp k7 fun c e1 e2 => by subst e2; exact hq1.out e1)
  have B7 := Lib.hid (B6.out.kp k7 fun c e1 e2 => by subst e2; exact hq2.out e1)
  have K7 := Lib.hid (K6.out.over k7 fun i q => .inl (.inl q))
  have z7 := k7.size
  go_upto_region 1 with fail
  generalize w6.setCell ⟨p, 0, none⟩ (.slice a6 (L.length + 1) d6) = w7 at *
  clear fP lP k7 P6 hq1 hq2 A6 B6 K6 cP6
  have cQ1 := cell_of_heap P7.out 1
  have cQ2 := cell_of_heap P7.out 2
  refine wp_region_tail (k := 13) (S := fun w' => w'.cell? ⟨p, 1, none⟩ = some (.slice a2 L.length d2) ∧ w'.cell? ⟨p, 2, none⟩ = some (.int .i64 o)) (by kernel_rfl) ?_ (fun hHeld => ?_)
  · exact ⟨cQ1, cQ2⟩
  have k8 : New w7 w7.drew := (Kp.refl _ _).drew
  have P8 := Lib.hid (heap_new k8 P7.out)
  have A8 := Lib.hid (A7.out.new k8)
  have B8 := Lib.hid (B7.out.new k8)
  have K8 := Lib.hid (K7.out.nw' k8)
  have z8 := k8.size
  generalize w7.drew = w8 at *
  clear k8 P7 A7 B7 K7 cQ1 cQ2
  refine AnyK.tw 0 rfl ?_
  try simp only [AP]
  refine AnyK.tw 1 rfl ?_
  try simp only [AP]
  refine AnyK.tw 2 rfl ?_
  try simp only [AP]
  refine AnyK.tw 3 rfl ?_
  try simp only [AP]
  refine AnyK.tk 4 rfl ?_
  try simp only [AP]
  refine AnyK.tw 5 rfl ?_
  try simp only [AP]
  refine AnyK.tw 6 rfl ?_
  try simp only [AP]
  refine AnyK.tw 7 rfl ?_
  try simp only [AP]
  refine AnyK.tk 8 rfl ?_
  try simp only [AP]
  refine AnyK.step (i := 9) (by kernel_rfl) rfl (fun K hK => ?_)
  go_simp
  have k9 : New w8 (w8.alloc (.cells #[.int .i64 o] 3)) := (Kp.refl _ _).alloc _
  have bO := alloc_heap w8 (.cells #[.int .i64 o] 3)
  have P9 := Lib.hid (heap_new k9 P8.out)
  have A9 := Lib.hid (A8.out.new k9)
  have B9 := Lib.hid (B8.out.new k9)
  have K9 := Lib.hid (K8.out.nw' k9)
  have z9 := k9.size
  generalize w8.alloc (.cells #[.int .i64 o] 3) = w9 at *
  have hy := Lib.hid (FlR.i1 bO)
  clear k9 bO P8 A8 B8 K8
  have cR1 := cell_of_heap P9.out 1
  have cR2 := cell_of_heap P9.out 2
  refine hK.out _ _ ?_ (fun hHeld2 => ?_)
  · exact ⟨cR1, cR2⟩
  clear hK K hHeld
  have hHeld := hHeld2
  clear hHeld2
  try simp only [AP]
  refine AnyK.step (i := 10) (by kernel_rfl) rfl (fun K hK => ?_)
  refine step_pushes rfl (.tmp 26) (.tmp 31) 34 rfl base 3 _ 8 Try.underlying34 LawF.infoI rfl (by decide) (.slice a2 L.length d2) F (by rw [← hFh.out]; rfl) B9.out _ [o] rfl hy.out (fun _ _ _ => rfl) ?_ ?_ ?_ ?_
  · have := hFh.out; simp only [List.length_cons, List.length_nil]; omega
  · have := hFh.out; simp only [List.length_cons, List.length_nil]; omega
  · omega
  intro va wa hva hpa haa
  have za := hpa.size
  have Pa := Lib.hid ((hpa.block p (heap_lt P9.out) fun e => OwnF.box B9.out P9.out (by decide) e).trans P9.out)
  have Aa := Lib.hid (A9.out.kp hpa fun c e1 e2 => OwnF.apart A9.out B9.out (by decide) c e1 e2)
  have ga := Lib.hid (g2h.out.trans (Grew.of haa) K9.out.size)
  have Ka := Lib.hid (K9.out.over hpa fun i q => (g2h.out i q).elim (fun e => .inl (.inr (.inr e))) .inr)
  have Ba := Lib.hid hva
  have hfa := Lib.hid (show (F ++ [o]).length = (L ++ [insOf op xs]).length by simp [hFh.out])
  obtain ⟨aa, da, ea, _⟩ := hva.reads.len
  have hla : (F ++ [o]).length = L.length + 1 := by simp [hFh.out]
  rw [hla] at ea
  subst ea
  clear hva hpa haa P9 A9 B9 K9 g2h hy hla cR1 cR2 hFh
  have cT1 := cell_of_heap Pa.out 1
  have cT2 := cell_of_heap Pa.out 2
  refine hK.out _ _ ?_ (fun hHeld2 => ?_)
  · exact ⟨cT1, cT2⟩
  clear hK K hHeld
  have hHeld := hHeld2
  clear hHeld2
  try simp only [AP]
  refine AnyK.tw 11 rfl ?_
  try simp only [AP]
  refine AnyK.tw 12 rfl ?_
  try simp only [AP]
  refine AnyK.last (by kernel_rfl) ?_
  simp only [List.drop_succ_cons, List.drop_zero]
  clear hHeld
  have fP := frozen_of_heap Pa.out
  have lP := heap_lt Pa.out
  have kb : Kp (fun c => c = p) wa (wa.setCell ⟨p, 1, none⟩ (.slice aa (L.length + 1) da)) := (Kp.refl (fun c => c = p) _).setCell (.inl rfl) _
  have Pb := Lib.hid (setCell_heap (o := 1) Pa.out (.slice aa (L.length + 1) da))
  have hq1 := Lib.hid (OwnF.box Aa.out Pa.out (by decide))
  have hq2 := Lib.hid (OwnF.box Ba.out Pa.out (by decide))
  have Ab := Lib.hid (Aa.out.kp kb fun c e1 e2 => by subst e2; exact hq1.out e1)
  have Bb := Lib.hid (Ba.out.kp kb fun c e1 e2 => by subst e2; exact hq2.out e1)
  have Kb := Lib.hid (Ka.out.over kb fun i q => .inl (.inl q))
  go_wp2
  refine Go.Great.bodyPost_end0 rfl rfl ?_
  exact ⟨rfl, _, _, _, Kb.out, Pb.out, Ab.out, Bb.out, hfa.out, g6.out, ga.out⟩
end Go.Proofs.Ytckikiaockkmbaa.CmpI
