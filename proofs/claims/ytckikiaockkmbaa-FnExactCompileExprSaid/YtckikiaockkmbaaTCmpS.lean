/- The code of expressions by spec: an instruction is added. Conditions: bounds on lengths. -/
import Derived.Test.YtckikiaockkmbaaTCmpP
import Derived.Test.YtckikiaockkmbaaTOwnT
import Derived.Test.YtckikiaockkmbaaTEvI
import Derived.Deep.RegionHeld3
import Derived.Deep.DeepCutAuto
import Derived.RegionTactic
import Derived.Test.YtckikiaockkmbaaTP1
namespace Go.Proofs.Ytckikiaockkmbaa.CmpS
open Go.RowKit Kit Val CmpP
set_option linter.unusedVariables false
/-- what is true on the way of a compilation: the code so far is L -/
def CS (w : World) (base : Nat) (vl vf : Value) (L : List Ins) (ul uf : Value) (wr : World) : Prop := ∃ F : List Int, Kp (fun c => vl.ownBlock = some c ∨ vf.ownBlock = some c) w wr ∧ OwnF 5 encN wr base 76 ul L ∧ OwnF 1 encI wr base 3 uf F ∧ F.length = L.length ∧ Grew w vl ul ∧ Grew w vf uf
section
variable {w wr w2 : World} {base : Nat} {vl vf ul uf tl tf : Value} {L M : List Ins}
theorem CS.size (h : CS w base vl vf L ul uf wr) : w.heap.size ≤ wr.heap.size := by obtain ⟨F, K, _⟩ := h; exact K.size
theorem CS.start (h : CS w base vl vf L ul uf wr) : CS wr base ul uf L ul uf wr := by
  obtain ⟨F, K, A, B, hl, g1, g2⟩ := h
  exact ⟨F, Kp.refl _ _, A, B, hl, Grew.refl _ _, Grew.refl _ _⟩
theorem CS.trans (h : CS w base vl vf L ul uf wr) (k : CS wr base ul uf M tl tf w2) : CS w base vl vf M tl tf w2 := by
  obtain ⟨F, K, A, B, hl, g1, g2⟩ := h
  obtain ⟨F', K', A', B', hl', g1', g2'⟩ := k
  refine ⟨F', K.over K' fun i q => ?_, A', B', hl', g1.trans g1' K.size, g2.trans g2' K.size⟩
  rcases q with q | q
  · exact (g1 i q).elim (fun e => .inl (.inl e)) .inr
  · exact (g2 i q).elim (fun e => .inl (.inr e)) .inr
theorem CS.new (h : CS w base vl vf L ul uf wr) (k : New wr w2) : CS w base vl vf L ul uf w2 := by
  obtain ⟨F, K, A, B, hl, g1, g2⟩ := h
  exact ⟨F, K.nw' k, A.new k, B.new k, hl, g1, g2⟩
/-- a box of another type stands -/
theorem CS.box (h : CS wr base ul uf M tl tf w2) (h0 : CS wr base ul uf L ul uf wr) {c : Nat} {cs : Array Value} {T' : TypeId} {f : Nat × Nat} (hc : wr.heap[c]? = some (.cells cs T' f)) (h1 : 76 ≠ T') (h2 : 3 ≠ T') : w2.heap[c]? = some (.cells cs T' f) := by
  obtain ⟨F, K, _⟩ := h
  obtain ⟨F0, _, A0, B0, _⟩ := h0
  refine (K.block c (heap_lt hc) fun q => ?_).trans hc
  rcases q with q | q
  · exact OwnF.box A0 hc h1 q
  · exact OwnF.box B0 hc h2 q
theorem CS.low (h : CS w base vl vf L ul uf wr) : (∀ b, ul.ownBlock = some b → base ≤ b) ∧ ∀ b, uf.ownBlock = some b → base ≤ b := by
  obtain ⟨F, K, A, B, _⟩ := h
  exact ⟨fun b hb => (A.lt b hb).1, fun b hb => (B.lt b hb).1⟩
theorem CS.kids {lo hi : Nat} {s : Value} {ks : List Ex} (h : CS w base vl vf L ul uf wr) (h0 : CS w base vl vf M vl vf w) (h2 : hi ≤ base) (h3 : hi ≤ w.heap.size) (hs : KidsR w lo hi s ks) : KidsR wr lo hi s ks := by
  obtain ⟨F, K, _⟩ := h
  exact hs.kp K h3 fun k q => .inr (q.elim (fun q => by have := h0.low.1 k q; omega) (fun q => by have := h0.low.2 k q; omega))
theorem CS.lens (h : CS w base vl vf L ul uf wr) : (∃ a d, ul = .slice a L.length d) ∧ ∃ a d, uf = .slice a L.length d := by
  obtain ⟨F, K, A, B, hl, _⟩ := h
  obtain ⟨a, d, rfl, _⟩ := A.reads.len
  obtain ⟨a', d', rfl, _⟩ := B.reads.len
  exact ⟨⟨a, d, rfl⟩, a', d', by rw [hl]⟩
end
theorem infoInstr : (Try.prog.info? 76).map (fun i => (i.zero, i.size, i.bytes)) = some (some (.agg #[.int .i64 0, .int .i64 0, .int .i64 0, .int .i64 0, .int .i64 0]), 5, 40) := by kernel_rfl
theorem oneN (y : Ins) : ∀ t, (encN y t).oneCell' = true := fun t => match t with | 0 => rfl | 1 => rfl | 2 => rfl | 3 => rfl | _ + 4 => rfl
/-- an instruction is added -/
def Add (w : World) (base : Nat) (vl vf : Value) (L : List Ins) (n : Int) (e : Ending) (w' : World) : Prop := ∃ ul uf, e = .returned (.agg #[ul, uf, .int .i64 n]) ∧ CS w base vl vf L ul uf w'
set_option maxHeartbeats 4000000 in
theorem l7Add (w : World) (base : Nat) (vl vf : Value) (L : List Ins) (n s : Int) (x : Ins) (h : CS w base vl vf L vl vf w) (hb : base ≤ w.heap.size) (hL : L.length ≤ 1000000) :
    Calls Try.prog 112 #[.agg #[vl, vf, .int .i64 n], .int .i64 s, .agg #[.int .i64 x.op, .int .i64 x.a, .int .i64 x.b, .int .i64 x.c, .int .i64 x.d]] w (Add w base vl vf (L ++ [x]) n) := by
  obtain ⟨⟨a1, d1, rfl⟩, a2, d2, rfl⟩ := h.lens
  have W0 : New w (((w.alloc (.cells #[.slice a1 L.length d1, .slice a2 L.length d2, .int .i64 n] 104)).alloc (.cells #[.int .i64 x.op, .int .i64 x.a, .int .i64 x.b, .int .i64 x.c, .int .i64 x.d] 76)).alloc (.cells #[.slice none 0 0, .slice none 0 0, .int .i64 0] 104)) := (((Kp.refl _ _).alloc _).alloc _).alloc _
  have bS_0 : (((w.alloc (.cells #[.slice a1 L.length d1, .slice a2 L.length d2, .int .i64 n] 104)).alloc (.cells #[.int .i64 x.op, .int .i64 x.a, .int .i64 x.b, .int .i64 x.c, .int .i64 x.d] 76)).alloc (.cells #[.slice none 0 0, .slice none 0 0, .int .i64 0] 104)).heap[w.heap.size]? = some (.cells #[.slice a1 L.length d1, .slice a2 L.length d2, .int .i64 n] 104) := heap_old (heap_old (alloc_heap _ _))
  have bI_0 : (((w.alloc (.cells #[.slice a1 L.length d1, .slice a2 L.length d2, .int .i64 n] 104)).alloc (.cells #[.int .i64 x.op, .int .i64 x.a, .int .i64 x.b, .int .i64 x.c, .int .i64 x.d] 76)).alloc (.cells #[.slice none 0 0, .slice none 0 0, .int .i64 0] 104)).heap[w.heap.size + 1]? = some (.cells #[.int .i64 x.op, .int .i64 x.a, .int .i64 x.b, .int .i64 x.c, .int .i64 x.d] 76) := heap_old (heap_at (by simp))
  have bR_0 : (((w.alloc (.cells #[.slice a1 L.length d1, .slice a2 L.length d2, .int .i64 n] 104)).alloc (.cells #[.int .i64 x.op, .int .i64 x.a, .int .i64 x.b, .int .i64 x.c, .int .i64 x.d] 76)).alloc (.cells #[.slice none 0 0, .slice none 0 0, .int .i64 0] 104)).heap[w.heap.size + 1 + 1]? = some (.cells #[.slice none 0 0, .slice none 0 0, .int .i64 0] 104) := heap_at (by simp)
  have z0 : w.heap.size + 1 + 1 < (((w.alloc (.cells #[.slice a1 L.length d1, .slice a2 L.length d2, .int .i64 n] 104)).alloc (.cells #[.int .i64 x.op, .int .i64 x.a, .int .i64 x.b, .int .i64 x.c, .int .i64 x.d] 76)).alloc (.cells #[.slice none 0 0, .slice none 0 0, .int .i64 0] 104)).heap.size := by simp
  have h0 := Lib.hid (h.new W0)
  have hlow := Lib.hid h.low
  clear h
  go_enter Try.func112, Try.ntmps112
  go_upto_region 1 with fail
  generalize (((w.alloc (.cells #[.slice a1 L.length d1, .slice a2 L.length d2, .int .i64 n] 104)).alloc (.cells #[.int .i64 x.op, .int .i64 x.a, .int .i64 x.b, .int .i64 x.c, .int .i64 x.d] 76)).alloc (.cells #[.slice none 0 0, .slice none 0 0, .int .i64 0] 104)) = w0 at *
  clear W0
  have cS0 := cell_of_heap bS_0 0
  obtain ⟨cI0, cI1, cI2, cI3, cI4⟩ := cells5 bI_0
  have kA : New w0 (w0.alloc (.cells #[.int .i64 x.op, .int .i64 x.a, .int .i64 x.b, .int .i64 x.c, .int .i64 x.d] 76)) := (Kp.refl _ _).alloc _
  have bN := alloc_heap w0 (.cells #[.int .i64 x.op, .int .i64 x.a, .int .i64 x.b, .int .i64 x.c, .int .i64 x.d] 76)
  have hx := Lib.hid (FlR.one (n := 5) (enc := encN) (y := x) fun t ht => match t, ht with | 0, _ => cell_of_heap bN 0 | 1, _ => cell_of_heap bN 1 | 2, _ => cell_of_heap bN 2 | 3, _ => cell_of_heap bN 3 | 4, _ => cell_of_heap bN 4)
  have hA := h0.out.new kA
  have bS_1 := heap_new kA bS_0
  have bR_1 := heap_new kA bR_0
  have zA := kA.size
  obtain ⟨F, K1, A1, B1, hF, g1, g2⟩ := hA
  have A1h := Lib.hid A1
  have B1h := Lib.hid B1
  have K1h := Lib.hid K1
  clear A1 B1 K1 bN kA g1 g2 bS_0 bR_0 bI_0
  go_wp2_with (at_builtin; refine wpList_pushesN rfl _ _ 52 rfl base 76 _ 40 Try.underlying52 infoInstr rfl (by decide) _ L rfl A1h.out _ [x] rfl hx.out (fun q _ => oneN q) ?ca ?cb ?cc ?_)
  case ca => first | omega | (simp; omega)
  case cb => first | omega | (simp; omega)
  case cc => simp; omega
  intro v1 w1 hv1 hk1 ha1
  have hb1 := Lib.hid (OwnF.box A1h.out bS_1 (by decide))
  have hb2 := Lib.hid (OwnF.box A1h.out bR_1 (by decide))
  have bS_2 := (hk1.block _ (heap_lt bS_1) hb1.out).trans bS_1
  have bR_2 := (hk1.block _ (heap_lt bR_1) hb2.out).trans bR_1
  have B2h := Lib.hid (B1h.out.kp hk1 fun c e1 e2 => OwnF.apart A1h.out B1h.out (by decide) c e2 e1)
  have K2h := Lib.hid (K1h.out.over hk1 fun i q => .inl (.inl q))
  have z1 := hk1.size
  have gA := Lib.hid (show Grew w (.slice a1 L.length d1) v1 from fun b hb => by
    rcases ha1 with e | e
    · exact .inl (e ▸ hb)
    · rw [e] at hb; simp at hb; exact .inr (by omega))
  have hv1h := Lib.hid hv1
  obtain ⟨p1, q1, hC, _⟩ := hv1.reads.len
  have hl1 : (L ++ [x]).length = L.length + 1 := by simp
  rw [hl1] at hC
  subst hC
  have cS0' := cell_of_heap bS_2 0
  have cSf := frozen_of_heap bS_2
  clear cS0 cI0 cI1 cI2 cI3 cI4 hv1 hk1 ha1 hb1 hb2 bS_1 bR_1 A1h B1h K1h hx h0 hl1
  have kk : Kp (fun c => c = w.heap.size) w1 (w1.setCell ⟨w.heap.size, 0, none⟩ (.slice p1 (L.length + 1) q1)) := (Kp.refl (fun c => c = w.heap.size) _).setCell (.inl rfl) _
  have bS_3 := setCell_heap (o := 0) bS_2 (.slice p1 (L.length + 1) q1)
  have bR_3 := kk.bo bR_2
  have hb3 := Lib.hid (OwnF.box hv1h.out bS_2 (by decide))
  have hb4 := Lib.hid (OwnF.box B2h.out bS_2 (by decide))
  have A3 := Lib.hid (hv1h.out.kp kk fun c e1 e2 => by subst e2; exact hb3.out e1)
  have B3 := Lib.hid (B2h.out.kp kk fun c e1 e2 => by subst e2; exact hb4.out e1)
  have K3 := Lib.hid (K2h.out.over kk fun i q => .inr (by omega))
  have z3 := kk.size
  go_upto_region 2 with fail
  generalize w1.setCell ⟨w.heap.size, 0, none⟩ (.slice p1 (L.length + 1) q1) = w3 at *
  clear cS0' cSf kk bS_2 bR_2 hb3 hb4 hv1h B2h K2h
  have cS1 := cell_of_heap bS_3 1
  have kB : New w3 (w3.alloc (.cells #[.int .i64 s] 3)) := (Kp.refl _ _).alloc _
  have hy := Lib.hid (FlR.i1 (alloc_heap w3 (.cells #[.int .i64 s] 3)))
  have A4 := Lib.hid (A3.out.new kB)
  have B4 := Lib.hid (B3.out.new kB)
  have K4 := Lib.hid (K3.out.nw' kB)
  have bS_4 := heap_new kB bS_3
  have bR_4 := heap_new kB bR_3
  have z4 := kB.size
  clear kB A3 B3 K3 bR_3
  go_wp2_with (at_builtin; refine wpList_pushesN rfl _ _ 34 rfl base 3 _ 8 Try.underlying34 LawF.infoI rfl (by decide) _ F (by rw [← hF]; rfl) B4.out _ [s] rfl hy.out (fun q _ _ => rfl) ?cd ?ce ?cf ?_)
  case cd => first | omega | (simp; omega)
  case ce => first | omega | (simp; omega)
  case cf => simp; omega
  intro v5 w5 hv5 hk5 ha5
  have hb5 := Lib.hid (OwnF.box B4.out bS_4 (by decide))
  have hb6 := Lib.hid (OwnF.box B4.out bR_4 (by decide))
  have bS_5 := (hk5.block _ (heap_lt bS_4) hb5.out).trans bS_4
  have bR_5 := (hk5.block _ (heap_lt bR_4) hb6.out).trans bR_4
  have A5 := Lib.hid (A4.out.kp hk5 fun c e1 e2 => OwnF.apart A4.out B4.out (by decide) c e1 e2)
  have K5 := Lib.hid (K4.out.over hk5 fun i q => .inl (.inr q))
  have z5 := hk5.size
  have gB := Lib.hid (show Grew w (.slice a2 L.length d2) v5 from fun b hb => by
    rcases ha5 with e | e
    · exact .inl (e ▸ hb)
    · rw [e] at hb; simp at hb; exact .inr (by omega))
  have hv5h := Lib.hid hv5
  obtain ⟨p2, q2, hD, _⟩ := hv5.reads.len
  have hl2 : (F ++ [s]).length = L.length + 1 := by simp [hF]
  rw [hl2] at hD
  subst hD
  have cS1' := cell_of_heap bS_5 1
  have cSf := frozen_of_heap bS_5
  have hFh := Lib.hid hl2
  clear cS1 hv5 hk5 ha5 hb5 hb6 bS_4 bR_4 A4 B4 K4 hy hl2 hF bS_3
  have kk : Kp (fun c => c = w.heap.size) w5 (w5.setCell ⟨w.heap.size, 1, none⟩ (.slice p2 (L.length + 1) q2)) := (Kp.refl (fun c => c = w.heap.size) _).setCell (.inl rfl) _
  have bS_6 := setCell_heap (o := 1) bS_5 (.slice p2 (L.length + 1) q2)
  have bR_6 := kk.bo bR_5
  have hb3 := Lib.hid (OwnF.box A5.out bS_5 (by decide))
  have hb4 := Lib.hid (OwnF.box hv5h.out bS_5 (by decide))
  have A6 := Lib.hid (A5.out.kp kk fun c e1 e2 => by subst e2; exact hb3.out e1)
  have B6 := Lib.hid (hv5h.out.kp kk fun c e1 e2 => by subst e2; exact hb4.out e1)
  have K6 := Lib.hid (K5.out.over kk fun i q => .inr (by omega))
  have z6 := kk.size
  go_upto_region 3 with fail
  generalize w5.setCell ⟨w.heap.size, 1, none⟩ (.slice p2 (L.length + 1) q2) = w6 at *
  clear cS1' cSf kk bS_5 bR_5 hb3 hb4 A5 hv5h K5
  obtain ⟨cS0, cS1, cS2⟩ := cells3 bS_6
  obtain ⟨cR0, cR1, cR2⟩ := cells3 bR_6
  have cRf := frozen_of_heap bR_6
  have cRl := heap_lt bR_6
  go_wp2
  have hkz := setMany_kp (w.heap.size + 1 + 1) [.slice p1 (L.length + 1) q1, .slice p2 (L.length + 1) q2, .int .i64 n] w6 0
  have hR := setMany_row [.slice p1 (L.length + 1) q1, .slice p2 (L.length + 1) q2, .int .i64 n] bR_6 rfl
  have hb7 := OwnF.box A6.out bR_6 (by decide)
  have hb8 := OwnF.box B6.out bR_6 (by decide)
  refine bodyPost_ret (results_cell_row rfl _ _ _ _ _ _ _ rfl hR Try.underlying104 rfl (by kernel_rfl)) rfl ?_
  exact ⟨_, _, rfl, F ++ [s], K6.out.over hkz fun i q => .inr (by omega), A6.out.kp hkz fun c e1 e2 => by subst e2; exact hb7 e1, B6.out.kp hkz fun c e1 e2 => by subst e2; exact hb8 e1, by rw [hFh.out]; simp, gA.out, gB.out⟩
end Go.Proofs.Ytckikiaockkmbaa.CmpS
