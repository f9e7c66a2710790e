/- CompileExpr by impl. Conditions: bounds on lengths. -/
import Derived.Test.YtckikiaockkmbaaTCmpJ
import Derived.Test.YtckikiaockkmbaaTCmpX
import Derived.Test.YtckikiaockkmbaaTP1
namespace Go.Proofs.Ytckikiaockkmbaa.CmpK
open Go.RowKit Kit Val CmpP CmpI CmpJ
set_option linter.unusedVariables false
set_option maxHeartbeats 4000000 in
set_option maxRecDepth 100000 in
theorem implX {w : World} {lo hi lo' hi' : Nat} {ta tb tc s : Value} {xa xb : List Int} {k v : Int} {ks : List Ex} (sa : IntsR w lo hi ta xa) (sb : IntsR w lo hi tb xb) (hc : ∃ a n d, tc = .slice a n d) (hs : KidsR w lo' hi' s ks) (h1 : hi ≤ w.heap.size) (h2 : hi' ≤ w.heap.size) (hm : Ex.sizes ks ≤ 1048576) :
    Calls Try.prog 30 #[.agg #[ta, tb, tc], .agg #[.int .i64 k, .int .i64 v, s]] w (CmpX.GotX xa xb k v ks w) := by
  obtain ⟨a1, d1, rfl, _⟩ := sa.len
  obtain ⟨a2, d2, rfl, _⟩ := sb.len
  obtain ⟨a5, n5, d5, rfl⟩ := hc
  obtain ⟨a3, d3, rfl, _⟩ := hs.len
  have N0 : New w ((w.alloc (.cells #[.slice a1 xa.length d1, .slice a2 xb.length d2, .slice a5 n5 d5] 37)).alloc (.cells #[.int .i64 k, .int .i64 v, .slice a3 ks.length d3] 58)) := ((Kp.refl _ _).alloc _).alloc _
  have bP_0 : ((w.alloc (.cells #[.slice a1 xa.length d1, .slice a2 xb.length d2, .slice a5 n5 d5] 37)).alloc (.cells #[.int .i64 k, .int .i64 v, .slice a3 ks.length d3] 58)).heap[w.heap.size]? = some (.cells #[.slice a1 xa.length d1, .slice a2 xb.length d2, .slice a5 n5 d5] 37) := heap_old (alloc_heap _ _)
  have bX_0 : ((w.alloc (.cells #[.slice a1 xa.length d1, .slice a2 xb.length d2, .slice a5 n5 d5] 37)).alloc (.cells #[.int .i64 k, .int .i64 v, .slice a3 ks.length d3] 58)).heap[w.heap.size + 1]? = some (.cells #[.int .i64 k, .int .i64 v, .slice a3 ks.length d3] 58) := heap_at (by simp)
  have z0 : w.heap.size + 1 < ((w.alloc (.cells #[.slice a1 xa.length d1, .slice a2 xb.length d2, .slice a5 n5 d5] 37)).alloc (.cells #[.int .i64 k, .int .i64 v, .slice a3 ks.length d3] 58)).heap.size := by simp
  have hsa := Lib.hid (sa.new h1 N0)
  have hsb := Lib.hid (sb.new h1 N0)
  have hks := Lib.hid (hs.new h2 N0)
  clear sa sb hs
  go_enter Try.func30, Try.ntmps30
  go_upto_region 1 with fail
  generalize ((w.alloc (.cells #[.slice a1 xa.length d1, .slice a2 xb.length d2, .slice a5 n5 d5] 37)).alloc (.cells #[.int .i64 k, .int .i64 v, .slice a3 ks.length d3] 58)) = w0 at *
  obtain ⟨cP0, cP1, cP2⟩ := cells3 bP_0
  obtain ⟨cX0, cX1, cX2⟩ := cells3 bX_0
  go_wp2_with fail
  refine (ExprV.implV hsa.out hsb.out hks.out (by omega) (by omega)).mono ?_
  rintro e w1 ⟨rfl, hn1⟩
  have z1 := hn1.size
  have bX_1 := heap_new hn1 bX_0
  have hks1 := Lib.hid (hks.out.new (by omega) hn1)
  have N1 := N0.trans hn1
  clear cP0 cP1 cP2 cX0 cX1 cX2 hn1 N0 hks bP_0 bX_0
  obtain ⟨cX0, cX1, cX2⟩ := cells3 bX_1
  cases ht : exprB xa xb (.node k v ks)
  · have hth := Lib.hid ht
    have N1h := Lib.hid N1
    clear ht N1
    go_wp2
    refine bodyPost_ret (EvS.results_tmp2 rfl _ _) rfl ?_
    exact ⟨_, by rw [hth.out]; rfl, N1h.out, by rw [hth.out]; exact OwnF.nil _ _ _⟩
  · have hth := Lib.hid ht
    have hsz15 : Ex.sizes ks + 1 ≤ 15 := (EvP.right_shp (show right xa.length xb.length (.node k v ks) = true by simp only [exprB, Bool.and_eq_true] at ht; exact ht.2)).2
    have hsh := Lib.hid (EvP.right_shp (show right xa.length xb.length (.node k v ks) = true by simp only [exprB, Bool.and_eq_true] at ht; exact ht.2)).1
    clear ht
    have kA : New w1 (w1.alloc (.cells #[.slice none 0 0, .slice none 0 0, .int .i64 0, .int .i64 0] 111)) := (Kp.refl _ _).alloc _
    have bC := alloc_heap w1 (.cells #[.slice none 0 0, .slice none 0 0, .int .i64 0, .int .i64 0] 111)
    have bX_2 := heap_new kA bX_1
    have hks2 := Lib.hid (hks1.out.new (by omega) kA)
    have N2 := N1.trans kA
    have z2 := kA.size
    clear cX0 cX1 cX2
    go_upto_region 4 with fail
    generalize w1.alloc (.cells #[.slice none 0 0, .slice none 0 0, .int .i64 0, .int .i64 0] 111) = w2 at *
    have C0 := Lib.hid (show CI w2 w1.heap.size w1.heap.size (.slice none 0 0) (.slice none 0 0) [] (.slice none 0 0) (.slice none 0 0) 0 0 w2 from ⟨[], Kp.refl _ _, bC, OwnF.nil _ _ _, OwnF.nil _ _ _, rfl, Grew.refl _ _, Grew.refl _ _⟩)
    obtain ⟨cX0, cX1, cX2⟩ := cells3 bX_2
    have zc := heap_lt bC
    clear bC kA bX_1 hks1 N1
    go_wp2_with fail
    refine (CmpJ.expr lo' hi' w1.heap.size xa.length xb.length (by omega) (Ex.sizes ks + 1) w2 5 w1.heap.size _ _ [] 0 0 _ k v ks 0 (Nat.lt_succ_self _) hsh.out z2 (Nat.le_refl _) C0.out hks2.out (by simp only [List.length_nil]; omega) (by omega)).mono ?_
    rintro e w3 ⟨rfl, ul, uf, C⟩
    obtain ⟨F, K, P, A, B, hl, g1, g2⟩ := C
    have N3 := Lib.hid (New.on N2 K (fun c hc => by simp [Value.ownBlock] at hc; omega))
    have A2 := Lib.hid (A.up (base' := w.heap.size) fun b hb => by have := (A.lt b hb).1; omega)
    have cC0 := cell_of_heap P 0
    obtain ⟨aU, dU, hU, _⟩ := A.reads.len
    generalize ([] ++ cex (.node k v ks) ((0 : Nat) : Int)).length = nU at hU
    subst hU
    clear A B K P g1 g2 hl cX0 cX1 cX2
    go_wp2
    refine bodyPost_ret (EvS.results_tmp2 rfl _ _) rfl ?_
    exact ⟨_, by rw [hth.out]; rfl, N3.out, by rw [hth.out]; simpa using A2.out⟩
end Go.Proofs.Ytckikiaockkmbaa.CmpK
