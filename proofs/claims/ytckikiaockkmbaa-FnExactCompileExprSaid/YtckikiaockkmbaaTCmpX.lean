/- CompileExpr by spec. Conditions: bounds on lengths. -/
import Derived.Test.YtckikiaockkmbaaTCmpE
import Derived.Test.YtckikiaockkmbaaTExprV
import Derived.Test.YtckikiaockkmbaaTEvS
import Derived.Test.YtckikiaockkmbaaTDrawM
import Derived.Test.YtckikiaockkmbaaTP1
namespace Go.Proofs.Ytckikiaockkmbaa.CmpX
open Go.RowKit Kit Val CmpP CmpS
set_option linter.unusedVariables false
/-- what CompileExpr answers -/
def GotX (xa xb : List Int) (k v : Int) (ks : List Ex) (w : World) (e : Ending) (w' : World) : Prop := ∃ ul, e = .returned (.tuple #[ul, .bool (exprB xa xb (.node k v ks))]) ∧ New w w' ∧ OwnF 5 encN w' w.heap.size 76 ul (if exprB xa xb (.node k v ks) = true then cex (.node k v ks) 0 else [])
set_option maxHeartbeats 4000000 in
set_option maxRecDepth 100000 in
theorem specX {w : World} {lo hi lo' hi' : Nat} {ta tb tc s : Value} {xa xb : List Int} {k v : Int} {ks : List Ex} (sa : IntsR w lo hi ta xa) (sb : IntsR w lo hi tb xb) (hc : ∃ a n d, tc = .slice a n d) (hs : KidsR w lo' hi' s ks) (h1 : hi ≤ w.heap.size) (h2 : hi' ≤ w.heap.size) (hm : Ex.sizes ks ≤ 1048576) :
    Calls Try.prog 27 #[.agg #[ta, tb, tc], .agg #[.int .i64 k, .int .i64 v, s]] w (GotX xa xb k v ks w) := by
  obtain ⟨a1, d1, rfl, _⟩ := sa.len
  obtain ⟨a2, d2, rfl, _⟩ := sb.len
  obtain ⟨a5, n5, d5, rfl⟩ := hc
  obtain ⟨a3, d3, rfl, _⟩ := hs.len
  have N0 : New w ((w.alloc (.cells #[.slice a1 xa.length d1, .slice a2 xb.length d2, .slice a5 n5 d5] 37)).alloc (.cells #[.int .i64 k, .int .i64 v, .slice a3 ks.length d3] 58)) := ((Kp.refl _ _).alloc _).alloc _
  have bP_0 : ((w.alloc (.cells #[.slice a1 xa.length d1, .slice a2 xb.length d2, .slice a5 n5 d5] 37)).alloc (.cells #[.int .i64 k, .int .i64 v, .slice a3 ks.length d3] 58)).heap[w.heap.size]? = some (.cells #[.slice a1 xa.length d1, .slice a2 xb.length d2, .slice a5 n5 d5] 37) := heap_old (alloc_heap _ _)
  have bX_0 : ((w.alloc (.cells #[.slice a1 xa.length d1, .slice a2 xb.length d2, .slice a5 n5 d5] 37)).alloc (.cells #[.int .i64 k, .int .i64 v, .slice a3 ks.length d3] 58)).heap[w.heap.size + 1]? = some (.cells #[.int .i64 k, .int .i64 v, .slice a3 ks.length d3] 58) := heap_at (by simp)
  have z0 : w.heap.size + 1 < ((w.alloc (.cells #[.slice a1 xa.length d1, .slice a2 xb.length d2, .slice a5 n5 d5] 37)).alloc (.cells #[.int .i64 k, .int .i64 v, .slice a3 ks.length d3] 58)).heap.size := by simp
  have hsa := Lib.hid (sa.new h1 N0)
  have hsb := Lib.hid (sb.new h1 N0)
  have hks := Lib.hid (hs.new h2 N0)
  clear sa sb hs
  go_enter Try.func27, Try.ntmps27
  go_upto_region 1 with fail
  generalize ((w.alloc (.cells #[.slice a1 xa.length d1, .slice a2 xb.length d2, .slice a5 n5 d5] 37)).alloc (.cells #[.int .i64 k, .int .i64 v, .slice a3 ks.length d3] 58)) = w0 at *
  obtain ⟨cP0, cP1, cP2⟩ := cells3 bP_0
  obtain ⟨cX0, cX1, cX2⟩ := cells3 bX_0
  go_wp2_with fail
  refine (ExprV.specV hsa.out hsb.out hks.out (by omega) (by omega) (by omega)).mono ?_
  rintro e w1 ⟨rfl, hn1⟩
  have z1 := hn1.size
  have bX_1 := heap_new hn1 bX_0
  have hks1 := Lib.hid (hks.out.new (by omega) hn1)
  have N1 := N0.trans hn1
  clear cP0 cP1 cP2 cX0 cX1 cX2 hn1 N0 hks bP_0 bX_0
  obtain ⟨cX0, cX1, cX2⟩ := cells3 bX_1
  cases ht : exprB xa xb (.node k v ks)
  · have hth := Lib.hid ht
    have hE := Lib.hid (OwnF.empty (α := Ins) (n := 5) (enc := encN) w1 76 (base := w.heap.size) N1.size)
    have kE := Lib.hid (show New w (w1.alloc (.cells #[] 76)) from N1.alloc _)
    clear ht N1
    go_wp2
    refine bodyPost_ret (EvS.results_tmp2 rfl _ _) rfl ?_
    exact ⟨_, by rw [hth.out]; rfl, kE.out, by rw [hth.out]; exact hE.out⟩
  · have hth := Lib.hid ht
    have hsz15 : Ex.sizes ks + 1 ≤ 15 := (EvP.right_shp (show right xa.length xb.length (.node k v ks) = true by simp only [exprB, Bool.and_eq_true] at ht; exact ht.2)).2
    have hsh := Lib.hid (EvP.right_shp (show right xa.length xb.length (.node k v ks) = true by simp only [exprB, Bool.and_eq_true] at ht; exact ht.2)).1
    clear ht
    have C0 := Lib.hid (show CS w1 w1.heap.size (.slice none 0 0) (.slice none 0 0) [] (.slice none 0 0) (.slice none 0 0) w1 from ⟨[], Kp.refl _ _, OwnF.nil _ _ _, OwnF.nil _ _ _, rfl, Grew.refl _ _, Grew.refl _ _⟩)
    go_wp2_with fail
    refine (CmpE.l7Expr lo' hi' w1.heap.size xa.length xb.length (by omega) (Ex.sizes ks + 1) w1 5 _ _ [] 0 0 _ k v ks 0 (Nat.lt_succ_self _) hsh.out (Nat.le_refl _) C0.out hks1.out (by simp only [List.length_nil]; omega) (by omega)).mono ?_
    rintro e w2 ⟨ul, uf, rfl, F, K, A, B, hl, g1, g2⟩
    have N2 := Lib.hid (New.on N1 K (fun c hc => by simp [Value.ownBlock] at hc))
    have A2 := Lib.hid (A.up (base' := w.heap.size) fun b hb => by have := (A.lt b hb).1; omega)
    obtain ⟨aU, dU, hU, _⟩ := A.reads.len
    obtain ⟨aF, dF, hF, _⟩ := B.reads.len
    generalize ([] ++ cex (.node k v ks) ((0 : Nat) : Int)).length = nU at hU
    generalize F.length = nF at hF
    subst hU hF
    clear A B K g1 g2 hl
    have hfd : (Instr.field 104 (.agg #[.slice aU nU dU, .slice aF nF dF, .int .i64 0]) 0).run Try.prog w2 = .ok (.slice aU nU dU) w2 := by first | rfl | kernel_rfl | (simp [Instr.field, Try.underlying104])
    go_wp2
    refine bodyPost_ret (EvS.results_tmp2 rfl _ _) rfl ?_
    exact ⟨_, by rw [hth.out]; rfl, N2.out, by rw [hth.out]; simpa using A2.out⟩
end Go.Proofs.Ytckikiaockkmbaa.CmpX
