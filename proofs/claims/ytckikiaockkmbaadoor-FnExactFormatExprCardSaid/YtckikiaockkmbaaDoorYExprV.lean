/- ExprValid of spec and of impl. Condition: at most 2^20 nodes. -/
import Derived.Test.YtckikiaockkmbaaDoorYP4
import Derived.Test.YtckikiaockkmbaaDoorYShapeV
import Derived.Test.YtckikiaockkmbaaDoorYP1
namespace Go.Proofs.YtckikiaockkmbaaDoor.ExprV
open Go.RowKit Kit Val
set_option linter.unusedVariables false
set_option maxHeartbeats 1000000 in
theorem specV {w : World} {lo hi lo' hi' : Nat} {ta tb tc : Value} {xa xb : List Int} {k v : Int} {s : Value} {l : List Ex} (sa : IntsR w lo hi ta xa) (sb : IntsR w lo hi tb xb) (hs : KidsR w lo' hi' s l) (h1 : hi ≤ w.heap.size) (h2 : hi' ≤ w.heap.size) (hm : Ex.sizes l + 1 ≤ 2097152) :
    Calls Tryd.prog 29 #[.agg #[ta, tb, tc], .agg #[.int .i64 k, .int .i64 v, s]] w fun e w' => e = .returned (.bool (exprB xa xb (.node k v l))) ∧ New w w' := by
  obtain ⟨a, c, rfl, m1⟩ := sa.len
  obtain ⟨a', c', rfl, m2⟩ := sb.len
  go_enter Tryd.func29, Tryd.ntmps29
  go_wp2_with fail
  have N0 : New w ((w.alloc (.cells #[.slice a xa.length c, .slice a' xb.length c', tc] 41)).alloc (.cells #[.int .i64 k, .int .i64 v, s] 45)) := (((Kp.refl _ _).alloc _).alloc _)
  have bA_0 : ((w.alloc (.cells #[.slice a xa.length c, .slice a' xb.length c', tc] 41)).alloc (.cells #[.int .i64 k, .int .i64 v, s] 45)).heap[w.heap.size]? = some (.cells #[.slice a xa.length c, .slice a' xb.length c', tc] 41) := heap_old (alloc_heap _ _)
  have bB_0 : ((w.alloc (.cells #[.slice a xa.length c, .slice a' xb.length c', tc] 41)).alloc (.cells #[.int .i64 k, .int .i64 v, s] 45)).heap[w.heap.size + 1]? = some (.cells #[.int .i64 k, .int .i64 v, s] 45) := heap_at (by simp)
  have z0 : w.heap.size + 1 < ((w.alloc (.cells #[.slice a xa.length c, .slice a' xb.length c', tc] 41)).alloc (.cells #[.int .i64 k, .int .i64 v, s] 45)).heap.size := by simp
  generalize ((w.alloc (.cells #[.slice a xa.length c, .slice a' xb.length c', tc] 41)).alloc (.cells #[.int .i64 k, .int .i64 v, s] 45)) = w0 at *
  obtain ⟨bA_0_c0, bA_0_c1, bA_0_c2⟩ := cells3 bA_0
  obtain ⟨bB_0_c0, bB_0_c1, bB_0_c2⟩ := cells3 bB_0
  refine (Decl.heads (sa.new h1 N0) (sb.new h1 N0) (by omega)).mono ?_
  rintro e w1 ⟨rfl, hn1⟩
  have z1 := hn1.size
  have N1 : New w w1 := N0.trans hn1
  have bA_1 := heap_new hn1 bA_0
  have bB_1 := heap_new hn1 bB_0
  clear bA_0_c0 bA_0_c1 bA_0_c2 bB_0_c0 bB_0_c1 bB_0_c2
  clear bA_0 bB_0 hn1
  obtain ⟨bA_1_c0, bA_1_c1, bA_1_c2⟩ := cells3 bA_1
  obtain ⟨bB_1_c0, bB_1_c1, bB_1_c2⟩ := cells3 bB_1
  cases hd : declB xa xb
  · have D := Lib.hid (show exprB xa xb (.node k v l) = false by rw [exprB, hd]; rfl)
    clear hd
    go_wp2
    go_ret
    exact ⟨retB D.out.symm, N1⟩
  have D := Lib.hid (show exprB xa xb (.node k v l) = right xa.length xb.length (.node k v l) by rw [exprB, hd]; rfl)
  clear hd
  go_wp2_with fail
  refine (ShapeV.l2Right hm (hs.new h2 N1) (by omega) m1 m2).mono ?_
  rintro e w2 ⟨rfl, hn2⟩
  have z2 := hn2.size
  have N2 : New w w2 := N1.trans hn2
  have bA_2 := heap_new hn2 bA_1
  have bB_2 := heap_new hn2 bB_1
  clear bA_1_c0 bA_1_c1 bA_1_c2 bB_1_c0 bB_1_c1 bB_1_c2
  clear bA_1 bB_1 hn2
  go_wp2
  go_ret
  exact ⟨retB D.out.symm, N2⟩
set_option maxHeartbeats 1000000 in
theorem implV {w : World} {lo hi lo' hi' : Nat} {ta tb tc : Value} {xa xb : List Int} {k v : Int} {s : Value} {l : List Ex} (sa : IntsR w lo hi ta xa) (sb : IntsR w lo hi tb xb) (hs : KidsR w lo' hi' s l) (h1 : hi ≤ w.heap.size) (h2 : hi' ≤ w.heap.size) :
    Calls Tryd.prog 34 #[.agg #[ta, tb, tc], .agg #[.int .i64 k, .int .i64 v, s]] w fun e w' => e = .returned (.bool (exprB xa xb (.node k v l))) ∧ New w w' := by
  obtain ⟨a, c, rfl, m1⟩ := sa.len
  obtain ⟨a', c', rfl, m2⟩ := sb.len
  go_enter Tryd.func34, Tryd.ntmps34
  go_wp2_with fail
  have N0 : New w ((w.alloc (.cells #[.slice a xa.length c, .slice a' xb.length c', tc] 41)).alloc (.cells #[.int .i64 k, .int .i64 v, s] 45)) := (((Kp.refl _ _).alloc _).alloc _)
  have bA_0 : ((w.alloc (.cells #[.slice a xa.length c, .slice a' xb.length c', tc] 41)).alloc (.cells #[.int .i64 k, .int .i64 v, s] 45)).heap[w.heap.size]? = some (.cells #[.slice a xa.length c, .slice a' xb.length c', tc] 41) := heap_old (alloc_heap _ _)
  have bB_0 : ((w.alloc (.cells #[.slice a xa.length c, .slice a' xb.length c', tc] 41)).alloc (.cells #[.int .i64 k, .int .i64 v, s] 45)).heap[w.heap.size + 1]? = some (.cells #[.int .i64 k, .int .i64 v, s] 45) := heap_at (by simp)
  have z0 : w.heap.size + 1 < ((w.alloc (.cells #[.slice a xa.length c, .slice a' xb.length c', tc] 41)).alloc (.cells #[.int .i64 k, .int .i64 v, s] 45)).heap.size := by simp
  generalize ((w.alloc (.cells #[.slice a xa.length c, .slice a' xb.length c', tc] 41)).alloc (.cells #[.int .i64 k, .int .i64 v, s] 45)) = w0 at *
  obtain ⟨bA_0_c0, bA_0_c1, bA_0_c2⟩ := cells3 bA_0
  obtain ⟨bB_0_c0, bB_0_c1, bB_0_c2⟩ := cells3 bB_0
  have SA := Lib.hid (sa.new h1 N0)
  have SB := Lib.hid (sb.new h1 N0)
  refine (Decl.declared SA.out SB.out).mono ?_
  rintro e w' ⟨rfl, rfl⟩
  cases hd : declB xa xb
  · have D := Lib.hid (show exprB xa xb (.node k v l) = false by rw [exprB, hd]; rfl)
    clear hd
    go_wp2
    go_ret
    exact ⟨retB D.out.symm, N0⟩
  have D := Lib.hid (show exprB xa xb (.node k v l) = right xa.length xb.length (.node k v l) by rw [exprB, hd]; rfl)
  clear hd
  go_wp2_with fail
  refine (ScanV.expr (hs.new h2 N0) (by omega) m1 m2).mono ?_
  rintro e w1 ⟨rfl, hn1⟩
  have z1 := hn1.size
  have N1 : New w w1 := N0.trans hn1
  have bA_1 := heap_new hn1 bA_0
  have bB_1 := heap_new hn1 bB_0
  clear bA_0_c0 bA_0_c1 bA_0_c2 bB_0_c0 bB_0_c1 bB_0_c2
  clear bA_0 bB_0 hn1
  go_wp2
  go_ret
  exact ⟨retB D.out.symm, N1⟩
end Go.Proofs.YtckikiaockkmbaaDoor.ExprV
