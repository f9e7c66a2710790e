/- EvalExpr of impl and of spec. Conditions: bounds on lengths. -/
import Derived.Test.YtbicpkmlionldaaEEvJ
import Derived.Test.YtbicpkmlionldaaEEvS
import Derived.Test.YtbicpkmlionldaaEP4
import Derived.Test.YtbicpkmlionldaaEP1
namespace Go.Proofs.Ytbicpkmlionldaa.EvM
open Go.RowKit Kit Val EvP
set_option linter.unusedVariables false
theorem results_tmp3 {P : Program} {fn : Func} {p q r : Tmp} (h : fn.results = #[.tmp p, .tmp q, .tmp r]) (tmps : Array Value) (w : World) : (results fn tmps).run P w = .ok (.tuple #[tmps.getD p undef, tmps.getD q undef, tmps.getD r undef]) w := by
  simp [results, h]
/-- is there a value -/
def evT (xa xb : List Int) (l : List St) (ya : List Int) (yb : List (List Int)) (k v : Int) (ks : List Ex) : Bool := (progB xa xb l && fitB xa.length xb.length ya yb) && right xa.length xb.length (.node k v ks)
/-- what EvalExpr answers -/
def GotE (xa xb : List Int) (l : List St) (ya : List Int) (yb : List (List Int)) (k v : Int) (ks : List Ex) (w : World) (e : Ending) (w' : World) : Prop := ∃ ve, e = .returned (.tuple #[.int .i64 (if evT xa xb l ya yb k v ks = true then evl ya yb (.node k v ks) else 0), ve, .bool (evT xa xb l ya yb k v ks)]) ∧ New w w' ∧
  OwnF 2 encE w' w.heap.size 68 ve (if evT xa xb l ya yb k v ks = true then evt ya yb (.node k v ks) else [])
theorem GotE.yes {xa xb : List Int} {l : List St} {ya : List Int} {yb : List (List Int)} {k v X : Int} {ks : List Ex} {w w' : World} {a b c ve : Value} (ht : evT xa xb l ya yb k v ks = true) (hX : evl ya yb (.node k v ks) = X) (ha : a = .int .i64 X) (hb : b = ve) (hc : c = .bool true) (N : New w w') (h : OwnF 2 encE w' w.heap.size 68 ve (evt ya yb (.node k v ks))) :
    GotE xa xb l ya yb k v ks w (.returned (.tuple #[a, b, c])) w' := by
  subst ha hb hc hX
  exact ⟨b, by rw [ht]; rfl, N, by rw [ht]; exact h⟩
theorem PartFit {xa xb : List Int} {l : List St} {ya : List Int} {yb : List (List Int)} (h : (progB xa xb l && fitB xa.length xb.length ya yb) = true) : Fit xa.length xb.length ya yb := by
  rw [Bool.and_eq_true] at h; exact fit h.2
theorem decl_len {xa xb : List Int} {l : List St} {ya : List Int} {yb : List (List Int)} (h : (progB xa xb l && fitB xa.length xb.length ya yb) = true) : xa.length ≤ 12 ∧ xb.length ≤ 2 := by
  simp only [progB, declB, Bool.and_eq_true, decide_eq_true_eq] at h
  exact ⟨h.1.1.1.1.1.1.2, h.1.1.1.1.1.2⟩
set_option maxHeartbeats 8000000 in
theorem implE {w : World} {lo hi lo' hi' lx hx : Nat} {ta tb tc va vb sk : Value} {xa xb ya : List Int} {yb : List (List Int)} {l : List St} {k v : Int} {ks : List Ex} (sa : IntsR w lo hi ta xa) (sb : IntsR w lo hi tb xb) (s : StsR w lo hi tc l) (ra : IntsR w lo' hi' va ya) (rb : MatR w lo' hi' vb yb) (hs : KidsR w lx hx sk ks) (h1 : hi ≤ w.heap.size) (h2 : hi' ≤ w.heap.size) (h3 : hx ≤ w.heap.size) (m1 : ya.length ≤ 1000000) (m2 : yb.length ≤ 1000000) (hm : St.sizes l ≤ 1048576) (hk : Ex.sizes ks ≤ 1048576) :
    Calls Try.prog 15 #[.agg #[ta, tb, tc], .agg #[va, vb], .agg #[.int .i64 k, .int .i64 v, sk]] w (GotE xa xb l ya yb k v ks w) := by
  obtain ⟨a1, d1, rfl, m3⟩ := sa.len
  obtain ⟨a2, d2, rfl, m4⟩ := sb.len
  obtain ⟨a3, d3, rfl, _⟩ := s.len
  obtain ⟨a4, d4, rfl, _⟩ := ra.len
  obtain ⟨a5, d5, rfl, _⟩ := rb.len
  obtain ⟨a6, d6, rfl, _⟩ := hs.len
  have N0 : New w (((w.alloc (.cells #[.slice a1 xa.length d1, .slice a2 xb.length d2, .slice a3 l.length d3] 49)).alloc (.cells #[.slice a4 ya.length d4, .slice a5 yb.length d5] 29)).alloc (.cells #[.int .i64 k, .int .i64 v, .slice a6 ks.length d6] 52)) := (((Kp.refl _ _).alloc _).alloc _).alloc _
  have bP_0 : (((w.alloc (.cells #[.slice a1 xa.length d1, .slice a2 xb.length d2, .slice a3 l.length d3] 49)).alloc (.cells #[.slice a4 ya.length d4, .slice a5 yb.length d5] 29)).alloc (.cells #[.int .i64 k, .int .i64 v, .slice a6 ks.length d6] 52)).heap[w.heap.size]? = some (.cells #[.slice a1 xa.length d1, .slice a2 xb.length d2, .slice a3 l.length d3] 49) := heap_old (heap_old (alloc_heap _ _))
  have bM_0 : (((w.alloc (.cells #[.slice a1 xa.length d1, .slice a2 xb.length d2, .slice a3 l.length d3] 49)).alloc (.cells #[.slice a4 ya.length d4, .slice a5 yb.length d5] 29)).alloc (.cells #[.int .i64 k, .int .i64 v, .slice a6 ks.length d6] 52)).heap[w.heap.size + 1]? = some (.cells #[.slice a4 ya.length d4, .slice a5 yb.length d5] 29) := heap_old (heap_at (by simp))
  have bX_0 : (((w.alloc (.cells #[.slice a1 xa.length d1, .slice a2 xb.length d2, .slice a3 l.length d3] 49)).alloc (.cells #[.slice a4 ya.length d4, .slice a5 yb.length d5] 29)).alloc (.cells #[.int .i64 k, .int .i64 v, .slice a6 ks.length d6] 52)).heap[w.heap.size + 1 + 1]? = some (.cells #[.int .i64 k, .int .i64 v, .slice a6 ks.length d6] 52) := heap_at (by simp)
  have z0 : w.heap.size + 1 + 1 < (((w.alloc (.cells #[.slice a1 xa.length d1, .slice a2 xb.length d2, .slice a3 l.length d3] 49)).alloc (.cells #[.slice a4 ya.length d4, .slice a5 yb.length d5] 29)).alloc (.cells #[.int .i64 k, .int .i64 v, .slice a6 ks.length d6] 52)).heap.size := by simp
  have hsa0 := Lib.hid (sa.new h1 N0)
  have hsb0 := Lib.hid (sb.new h1 N0)
  have hs0 := Lib.hid (s.new h1 N0)
  have hra0 := Lib.hid (ra.new h2 N0)
  have hrb0 := Lib.hid (rb.new h2 N0)
  have hks0 := Lib.hid (hs.new h3 N0)
  clear sa sb s ra rb hs
  go_enter Try.func15, Try.ntmps15
  go_upto_region 1 with fail
  generalize (((w.alloc (.cells #[.slice a1 xa.length d1, .slice a2 xb.length d2, .slice a3 l.length d3] 49)).alloc (.cells #[.slice a4 ya.length d4, .slice a5 yb.length d5] 29)).alloc (.cells #[.int .i64 k, .int .i64 v, .slice a6 ks.length d6] 52)) = w0 at *
  obtain ⟨cP0, cP1, cP2⟩ := cells3 bP_0
  obtain ⟨cM0, cM1⟩ := cells2 bM_0
  obtain ⟨cX0, cX1, cX2⟩ := cells3 bX_0
  go_wp2_with fail
  refine (PgmV.implM hsa0.out hsb0.out hs0.out (by omega) hra0.out hrb0.out (by omega)).mono ?_
  rintro e w1 ⟨rfl, hn1⟩
  have z1 := hn1.size
  have N1 := N0.trans hn1
  have bP_1 := heap_new hn1 bP_0
  have bM_1 := heap_new hn1 bM_0
  have bX_1 := heap_new hn1 bX_0
  have hsa1 := Lib.hid (hsa0.out.new (by omega) hn1)
  have hsb1 := Lib.hid (hsb0.out.new (by omega) hn1)
  have hra1 := Lib.hid (hra0.out.new (by omega) hn1)
  have hrb1 := Lib.hid (hrb0.out.new (by omega) hn1)
  have hks1 := Lib.hid (hks0.out.new (by omega) hn1)
  clear cP0 cP1 cP2 cM0 cM1 cX0 cX1 cX2 bP_0 bM_0 bX_0 hsa0 hsb0 hra0 hrb0 hks0
  clear hs0 hn1 N0
  cases ht1 : (progB xa xb l && fitB xa.length xb.length ya yb)
  · have hth := Lib.hid (show evT xa xb l ya yb k v ks = false by unfold evT; rw [ht1]; rfl)
    clear ht1
    obtain ⟨cP0, cP1, cP2⟩ := cells3 bP_1
    obtain ⟨cM0, cM1⟩ := cells2 bM_1
    obtain ⟨cX0, cX1, cX2⟩ := cells3 bX_1
    go_wp2
    exact bodyPost_ret (results_tmp3 rfl _ _) rfl ⟨_, by rw [hth.out]; rfl, N1, by rw [hth.out]; exact OwnF.nil _ _ _⟩
  · have hf := PartFit ht1
    have hfh := Lib.hid hf
    have hdl := decl_len ht1
    have hdl1 := hdl.1
    have hdl2 := hdl.2
    have ht1h := Lib.hid ht1
    clear ht1 hf hdl
    obtain ⟨cP0, cP1, cP2⟩ := cells3 bP_1
    obtain ⟨cM0, cM1⟩ := cells2 bM_1
    obtain ⟨cX0, cX1, cX2⟩ := cells3 bX_1
    go_wp2_with fail
    refine (ScanV.expr hks1.out (by omega) m3 m4).mono ?_
    rintro e w2 ⟨rfl, hn2⟩
    have z2 := hn2.size
    have N2 := N1.trans hn2
    have bP_2 := heap_new hn2 bP_1
    have bM_2 := heap_new hn2 bM_1
    have bX_2 := heap_new hn2 bX_1
    have hsa2 := Lib.hid (hsa1.out.new (by omega) hn2)
    have hsb2 := Lib.hid (hsb1.out.new (by omega) hn2)
    have hra2 := Lib.hid (hra1.out.new (by omega) hn2)
    have hrb2 := Lib.hid (hrb1.out.new (by omega) hn2)
    have hks2 := Lib.hid (hks1.out.new (by omega) hn2)
    clear cP0 cP1 cP2 cM0 cM1 cX0 cX1 cX2 bP_1 bM_1 bX_1 hsa1 hsb1 hra1 hrb1 hks1
    clear hn2 N1
    cases ht2 : right xa.length xb.length (.node k v ks)
    · have hth := Lib.hid (show evT xa xb l ya yb k v ks = false by unfold evT; rw [ht2]; simp)
      clear ht2
      obtain ⟨cP0, cP1, cP2⟩ := cells3 bP_2
      obtain ⟨cM0, cM1⟩ := cells2 bM_2
      obtain ⟨cX0, cX1, cX2⟩ := cells3 bX_2
      go_wp2
      exact bodyPost_ret (results_tmp3 rfl _ _) rfl ⟨_, by rw [hth.out]; rfl, N2, by rw [hth.out]; exact OwnF.nil _ _ _⟩
    · have hth := Lib.hid (show evT xa xb l ya yb k v ks = true by unfold evT; rw [ht1h.out, ht2]; rfl)
      have hsh := Lib.hid (right_shp ht2).1
      clear ht2
      obtain ⟨cP0, cP1, cP2⟩ := cells3 bP_2
      obtain ⟨cM0, cM1⟩ := cells2 bM_2
      obtain ⟨cX0, cX1, cX2⟩ := cells3 bX_2
      have hn3 : New w2 (w2.alloc (.cells #[.slice a4 ya.length d4, .slice a5 yb.length d5, .slice none 0 0] 87)) := (Kp.refl _ _).alloc _
      have bR_3 := alloc_heap w2 (.cells #[.slice a4 ya.length d4, .slice a5 yb.length d5, .slice none 0 0] 87)
      have y3 : w2.heap.size < (w2.alloc (.cells #[.slice a4 ya.length d4, .slice a5 yb.length d5, .slice none 0 0] 87)).heap.size := by simp
      go_upto_region 4 with fail
      generalize hbR : w2.heap.size = bR at bR_3 ⊢
      have hbR2 : w2.heap.size ≤ bR := Nat.le_of_eq hbR
      have hbR3 : bR ≤ w2.heap.size := Nat.le_of_eq hbR.symm
      generalize (w2.alloc (.cells #[.slice a4 ya.length d4, .slice a5 yb.length d5, .slice none 0 0] 87)) = w3 at *
      clear hbR
      have z3 := hn3.size
      have N3 := N2.trans hn3
      have bP_3 := heap_new hn3 bP_2
      have bM_3 := heap_new hn3 bM_2
      have bX_3 := heap_new hn3 bX_2
      have hsa3 := Lib.hid (hsa2.out.new (by omega) hn3)
      have hsb3 := Lib.hid (hsb2.out.new (by omega) hn3)
      have hra3 := Lib.hid (hra2.out.new (by omega) hn3)
      have hrb3 := Lib.hid (hrb2.out.new (by omega) hn3)
      have hks3 := Lib.hid (hks2.out.new (by omega) hn3)
      clear cP0 cP1 cP2 cM0 cM1 cX0 cX1 cX2 bP_2 bM_2 bX_2 hsa2 hsb2 hra2 hrb2 hks2
      clear hn3 N2
      obtain ⟨cX0, cX1, cX2⟩ := cells3 bX_3
      go_wp2_with fail
      refine (EvJ.eval lx hx lo' hi' bR w.heap.size xa.length xb.length _ _ ya yb hfh.out (by omega) (by omega) (by omega) (by omega) (by omega) _ w3 5 _ _ k v ks [] (Nat.lt_succ_self _) hsh.out bR_3 hra3.out hrb3.out hks3.out (OwnF.nil _ _ _) (by simp; omega)).mono ?_
      rintro e w4 ⟨r, ev, rfl, rfl, K4, bR_4, hE4, g4⟩
      have K5 := Lib.hid (New.on N3 K4 (fun c hc => by rcases hc with hc | hc; (· omega); (· simp [Value.ownBlock] at hc)))
      have hE5 := Lib.hid hE4
      obtain ⟨a7, d7, rfl, _⟩ := hE4.reads.len
      have cR2 := cell_of_heap bR_4 2
      clear cX0 cX1 cX2 hE4 K4 g4
      rw [List.nil_append] at hE5
      generalize hX : EvP.evl ya yb (.node k v ks) = X at *
      have hXh := Lib.hid hX
      clear hX
      go_wp2_with fail
      go_quiet (fail)
      go_wp2
      refine bodyPost_ret (results_tmp3 rfl _ _) rfl ?_
      exact GotE.yes hth.out hXh.out rfl rfl rfl (K5.out.trans (drewN_kp _ _ (Kp.refl _ _))) (hE5.out.new (drewN_kp _ _ (Kp.refl _ _)))
set_option maxHeartbeats 8000000 in
theorem specE {w : World} {lo hi lo' hi' lx hx : Nat} {ta tb tc va vb sk : Value} {xa xb ya : List Int} {yb : List (List Int)} {l : List St} {k v : Int} {ks : List Ex} (sa : IntsR w lo hi ta xa) (sb : IntsR w lo hi tb xb) (s : StsR w lo hi tc l) (ra : IntsR w lo' hi' va ya) (rb : MatR w lo' hi' vb yb) (hs : KidsR w lx hx sk ks) (h1 : hi ≤ w.heap.size) (h2 : hi' ≤ w.heap.size) (h3 : hx ≤ w.heap.size) (m1 : ya.length ≤ 1000000) (m2 : yb.length ≤ 1000000) (hm : St.sizes l ≤ 1048576) (hk : Ex.sizes ks ≤ 1048576) :
    Calls Try.prog 16 #[.agg #[ta, tb, tc], .agg #[va, vb], .agg #[.int .i64 k, .int .i64 v, sk]] w (GotE xa xb l ya yb k v ks w) := by
  obtain ⟨a1, d1, rfl, m3⟩ := sa.len
  obtain ⟨a2, d2, rfl, m4⟩ := sb.len
  obtain ⟨a3, d3, rfl, _⟩ := s.len
  obtain ⟨a4, d4, rfl, _⟩ := ra.len
  obtain ⟨a5, d5, rfl, _⟩ := rb.len
  obtain ⟨a6, d6, rfl, _⟩ := hs.len
  have N0 : New w (((w.alloc (.cells #[.slice a1 xa.length d1, .slice a2 xb.length d2, .slice a3 l.length d3] 49)).alloc (.cells #[.slice a4 ya.length d4, .slice a5 yb.length d5] 29)).alloc (.cells #[.int .i64 k, .int .i64 v, .slice a6 ks.length d6] 52)) := (((Kp.refl _ _).alloc _).alloc _).alloc _
  have bP_0 : (((w.alloc (.cells #[.slice a1 xa.length d1, .slice a2 xb.length d2, .slice a3 l.length d3] 49)).alloc (.cells #[.slice a4 ya.length d4, .slice a5 yb.length d5] 29)).alloc (.cells #[.int .i64 k, .int .i64 v, .slice a6 ks.length d6] 52)).heap[w.heap.size]? = some (.cells #[.slice a1 xa.length d1, .slice a2 xb.length d2, .slice a3 l.length d3] 49) := heap_old (heap_old (alloc_heap _ _))
  have bM_0 : (((w.alloc (.cells #[.slice a1 xa.length d1, .slice a2 xb.length d2, .slice a3 l.length d3] 49)).alloc (.cells #[.slice a4 ya.length d4, .slice a5 yb.length d5] 29)).alloc (.cells #[.int .i64 k, .int .i64 v, .slice a6 ks.length d6] 52)).heap[w.heap.size + 1]? = some (.cells #[.slice a4 ya.length d4, .slice a5 yb.length d5] 29) := heap_old (heap_at (by simp))
  have bX_0 : (((w.alloc (.cells #[.slice a1 xa.length d1, .slice a2 xb.length d2, .slice a3 l.length d3] 49)).alloc (.cells #[.slice a4 ya.length d4, .slice a5 yb.length d5] 29)).alloc (.cells #[.int .i64 k, .int .i64 v, .slice a6 ks.length d6] 52)).heap[w.heap.size + 1 + 1]? = some (.cells #[.int .i64 k, .int .i64 v, .slice a6 ks.length d6] 52) := heap_at (by simp)
  have z0 : w.heap.size + 1 + 1 < (((w.alloc (.cells #[.slice a1 xa.length d1, .slice a2 xb.length d2, .slice a3 l.length d3] 49)).alloc (.cells #[.slice a4 ya.length d4, .slice a5 yb.length d5] 29)).alloc (.cells #[.int .i64 k, .int .i64 v, .slice a6 ks.length d6] 52)).heap.size := by simp
  have hsa0 := Lib.hid (sa.new h1 N0)
  have hsb0 := Lib.hid (sb.new h1 N0)
  have hs0 := Lib.hid (s.new h1 N0)
  have hra0 := Lib.hid (ra.new h2 N0)
  have hrb0 := Lib.hid (rb.new h2 N0)
  have hks0 := Lib.hid (hs.new h3 N0)
  clear sa sb s ra rb hs
  go_enter Try.func16, Try.ntmps16
  go_upto_region 1 with fail
  generalize (((w.alloc (.cells #[.slice a1 xa.length d1, .slice a2 xb.length d2, .slice a3 l.length d3] 49)).alloc (.cells #[.slice a4 ya.length d4, .slice a5 yb.length d5] 29)).alloc (.cells #[.int .i64 k, .int .i64 v, .slice a6 ks.length d6] 52)) = w0 at *
  obtain ⟨cP0, cP1, cP2⟩ := cells3 bP_0
  obtain ⟨cM0, cM1⟩ := cells2 bM_0
  obtain ⟨cX0, cX1, cX2⟩ := cells3 bX_0
  go_wp2_with fail
  refine (PgmV.specM hsa0.out hsb0.out hs0.out (by omega) hra0.out hrb0.out (by omega) hm).mono ?_
  rintro e w1 ⟨rfl, hn1⟩
  have z1 := hn1.size
  have N1 := N0.trans hn1
  have bP_1 := heap_new hn1 bP_0
  have bM_1 := heap_new hn1 bM_0
  have bX_1 := heap_new hn1 bX_0
  have hsa1 := Lib.hid (hsa0.out.new (by omega) hn1)
  have hsb1 := Lib.hid (hsb0.out.new (by omega) hn1)
  have hra1 := Lib.hid (hra0.out.new (by omega) hn1)
  have hrb1 := Lib.hid (hrb0.out.new (by omega) hn1)
  have hks1 := Lib.hid (hks0.out.new (by omega) hn1)
  clear cP0 cP1 cP2 cM0 cM1 cX0 cX1 cX2 bP_0 bM_0 bX_0 hsa0 hsb0 hra0 hrb0 hks0
  clear hs0 hn1 N0
  cases ht1 : (progB xa xb l && fitB xa.length xb.length ya yb)
  · have hth := Lib.hid (show evT xa xb l ya yb k v ks = false by unfold evT; rw [ht1]; rfl)
    clear ht1
    obtain ⟨cP0, cP1, cP2⟩ := cells3 bP_1
    obtain ⟨cM0, cM1⟩ := cells2 bM_1
    obtain ⟨cX0, cX1, cX2⟩ := cells3 bX_1
    have hE0 := Lib.hid (OwnF.empty (α := Ev) (n := 2) (enc := encE) w1 68 (base := w.heap.size) N1.size)
    have kE : New w (w1.alloc (.cells #[] 68)) := N1.alloc _
    go_wp2
    exact bodyPost_ret (results_tmp3 rfl _ _) rfl ⟨_, by rw [hth.out]; rfl, kE, by rw [hth.out]; exact hE0.out⟩
  · have hf := PartFit ht1
    have hfh := Lib.hid hf
    have hdl := decl_len ht1
    have hdl1 := hdl.1
    have hdl2 := hdl.2
    have ht1h := Lib.hid ht1
    clear ht1 hf hdl
    obtain ⟨cP0, cP1, cP2⟩ := cells3 bP_1
    obtain ⟨cM0, cM1⟩ := cells2 bM_1
    obtain ⟨cX0, cX1, cX2⟩ := cells3 bX_1
    go_wp2_with fail
    refine (ShapeV.l2Right (by omega) hks1.out (by omega) m3 m4).mono ?_
    rintro e w2 ⟨rfl, hn2⟩
    have z2 := hn2.size
    have N2 := N1.trans hn2
    have bP_2 := heap_new hn2 bP_1
    have bM_2 := heap_new hn2 bM_1
    have bX_2 := heap_new hn2 bX_1
    have hsa2 := Lib.hid (hsa1.out.new (by omega) hn2)
    have hsb2 := Lib.hid (hsb1.out.new (by omega) hn2)
    have hra2 := Lib.hid (hra1.out.new (by omega) hn2)
    have hrb2 := Lib.hid (hrb1.out.new (by omega) hn2)
    have hks2 := Lib.hid (hks1.out.new (by omega) hn2)
    clear cP0 cP1 cP2 cM0 cM1 cX0 cX1 cX2 bP_1 bM_1 bX_1 hsa1 hsb1 hra1 hrb1 hks1
    clear hn2 N1
    cases ht2 : right xa.length xb.length (.node k v ks)
    · have hth := Lib.hid (show evT xa xb l ya yb k v ks = false by unfold evT; rw [ht2]; simp)
      clear ht2
      obtain ⟨cP0, cP1, cP2⟩ := cells3 bP_2
      obtain ⟨cM0, cM1⟩ := cells2 bM_2
      obtain ⟨cX0, cX1, cX2⟩ := cells3 bX_2
      have hE0 := Lib.hid (OwnF.empty (α := Ev) (n := 2) (enc := encE) w2 68 (base := w.heap.size) N2.size)
      have kE : New w (w2.alloc (.cells #[] 68)) := N2.alloc _
      go_wp2
      exact bodyPost_ret (results_tmp3 rfl _ _) rfl ⟨_, by rw [hth.out]; rfl, kE, by rw [hth.out]; exact hE0.out⟩
    · have hth := Lib.hid (show evT xa xb l ya yb k v ks = true by unfold evT; rw [ht1h.out, ht2]; rfl)
      have hsh := Lib.hid (right_shp ht2).1
      clear ht2
      obtain ⟨cP0, cP1, cP2⟩ := cells3 bP_2
      obtain ⟨cM0, cM1⟩ := cells2 bM_2
      obtain ⟨cX0, cX1, cX2⟩ := cells3 bX_2
      go_wp2_with fail
      refine (EvS.l3Eval lx hx lo' hi' w.heap.size xa.length xb.length _ _ ya yb hfh.out (by omega) (by omega) (by omega) (by omega) _ w2 5 _ _ k v ks [] (Nat.lt_succ_self _) hsh.out (by omega) hra2.out hrb2.out hks2.out (OwnF.nil _ _ _) (by simp; omega)).mono ?_
      rintro e w4 ⟨ev, rfl, K4, hE4, g4⟩
      have K5 := Lib.hid (New.on N2 K4 (fun c hc => by simp [Value.ownBlock] at hc))
      have hE5 := Lib.hid hE4
      clear hE4 K4 g4
      rw [List.nil_append] at hE5
      generalize hX : EvP.evl ya yb (.node k v ks) = X at *
      have hXh := Lib.hid hX
      clear hX
      go_wp2
      refine bodyPost_ret (results_tmp3 rfl _ _) rfl ?_
      exact GotE.yes hth.out hXh.out rfl rfl rfl K5.out hE5.out
end Go.Proofs.Ytbicpkmlionldaa.EvM
