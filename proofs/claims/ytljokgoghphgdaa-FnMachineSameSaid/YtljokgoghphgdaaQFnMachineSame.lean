/- FnMachineSame: for every input the law returns true, and the arguments read as they did. No conditions. -/
import Derived.Test.YtljokgoghphgdaaRows
import Derived.Test.YtljokgoghphgdaaQDrawE
import Derived.Test.YtljokgoghphgdaaQP6
import Derived.WalkKit
import Derived.ProofKit
import Derived.OpenShut
import Derived.ShutString
import Derived.ChangeOld
import Derived.Below
namespace Go.Proofs.Ytljokgoghphgdaa.fnMachineSame
open Go.ChangeShapes Go.WideShapes Go.ChangeAt Go.RowKit Kit
open Go.ChangeMaps (open_string shut_string)
set_option linter.unusedVariables false
theorem own : ownKnob Try.prog.godebug = none := by kernel_rfl
theorem laidOut : laidOutB Try.prog = true := by kernel_rfl
set_option maxHeartbeats 1000000 in
theorem walk (a0 : Option Addr) (l0 c0 : Nat) (w : World) (s0 : Kit.Src w a0 l0 c0) :
    Calls Try.prog 7 #[.slice a0 l0 c0] w fun e w' => e = .returned (.bool true) ∧ Below w.heap.size w w' := by
  by_cases hl : 1048576 < l0
  · go_enter Try.func7, Try.ntmps7
    go_wp2
    go_ret
    exact ⟨rfl, Below.refl _ _⟩
  · go_enter Try.func7, Try.ntmps7
    go_wp2_with fail
    refine (DrawE.drawSame _ a0 l0 c0 s0).mono ?_
    rintro e w1 ⟨pc, pd, mr, ma, mb, nr, na, nb, xr, xa, yr, ya, xb, yb, rfl, N1, oX_1, oY_1⟩
    obtain ⟨a1, d1, rfl, m1⟩ := oX_1.1.len
    obtain ⟨a2, d2, rfl, m2⟩ := oX_1.2.1.len
    obtain ⟨a3, d3, rfl, m3⟩ := oX_1.2.2.len
    obtain ⟨a4, d4, rfl, m4⟩ := oY_1.1.len
    obtain ⟨a5, d5, rfl, m5⟩ := oY_1.2.1.len
    obtain ⟨a6, d6, rfl, m6⟩ := oY_1.2.2.len
    have zw := N1.size
    have hn2 : New w1 ((w1.alloc (.cells #[.int .i64 pc, .slice a1 xr.length d1, .slice a2 xa.length d2, .slice a3 xb.length d3] 31)).alloc (.cells #[.int .i64 pd, .slice a4 yr.length d4, .slice a5 ya.length d5, .slice a6 yb.length d6] 31)) := ((Kp.refl _ _).alloc _).alloc _
    have bA_2 : ((w1.alloc (.cells #[.int .i64 pc, .slice a1 xr.length d1, .slice a2 xa.length d2, .slice a3 xb.length d3] 31)).alloc (.cells #[.int .i64 pd, .slice a4 yr.length d4, .slice a5 ya.length d5, .slice a6 yb.length d6] 31)).heap[w1.heap.size]? = some (.cells #[.int .i64 pc, .slice a1 xr.length d1, .slice a2 xa.length d2, .slice a3 xb.length d3] 31) := heap_old (alloc_heap _ _)
    have bB_2 : ((w1.alloc (.cells #[.int .i64 pc, .slice a1 xr.length d1, .slice a2 xa.length d2, .slice a3 xb.length d3] 31)).alloc (.cells #[.int .i64 pd, .slice a4 yr.length d4, .slice a5 ya.length d5, .slice a6 yb.length d6] 31)).heap[w1.heap.size + 1]? = some (.cells #[.int .i64 pd, .slice a4 yr.length d4, .slice a5 ya.length d5, .slice a6 yb.length d6] 31) := heap_at (by simp)
    have y2 : w1.heap.size + 1 < ((w1.alloc (.cells #[.int .i64 pc, .slice a1 xr.length d1, .slice a2 xa.length d2, .slice a3 xb.length d3] 31)).alloc (.cells #[.int .i64 pd, .slice a4 yr.length d4, .slice a5 ya.length d5, .slice a6 yb.length d6] 31)).heap.size := by simp
    go_upto_region 4 with fail
    generalize ((w1.alloc (.cells #[.int .i64 pc, .slice a1 xr.length d1, .slice a2 xa.length d2, .slice a3 xb.length d3] 31)).alloc (.cells #[.int .i64 pd, .slice a4 yr.length d4, .slice a5 ya.length d5, .slice a6 yb.length d6] 31)) = w2 at *
    have z2 : w1.heap.size ≤ w2.heap.size := hn2.size
    have N2 : New w w2 := N1.trans hn2
    have oX_2 : DrawE.R3 w2 _ _ _ _ _ _ _ _ := ⟨oX_1.1.new (by omega) hn2, oX_1.2.1.new (by omega) hn2, oX_1.2.2.new (by omega) hn2⟩
    have oY_2 : DrawE.R3 w2 _ _ _ _ _ _ _ _ := ⟨oY_1.1.new (by omega) hn2, oY_1.2.1.new (by omega) hn2, oY_1.2.2.new (by omega) hn2⟩
    clear oX_1 oY_1 hn2
    have cA0 := cell_of_heap bA_2 0
    have cB0 := cell_of_heap bB_2 0
    have cA1 := cell_of_heap bA_2 1
    have cB1 := cell_of_heap bB_2 1
    have cA2 := cell_of_heap bA_2 2
    have cB2 := cell_of_heap bB_2 2
    have cA3 := cell_of_heap bA_2 3
    have cB3 := cell_of_heap bB_2 3
    have lA := heap_lt bA_2
    have lB := heap_lt bB_2
    go_wp2_with fail
    clear cA0 cB0 cA1 cB1 cA2 cB2 cA3 cB3 lA lB
    refine (SameS.implSame w2 w.heap.size w1.heap.size w.heap.size w1.heap.size pc pd _ _ _ _ _ _ xr xa yr ya xb yb oX_2.1 oX_2.2.1 oX_2.2.2 oY_2.1 oY_2.2.1 oY_2.2.2 (by omega) (by omega)).mono ?_
    rintro e w3 ⟨rfl, hn3⟩
    have z3 : w2.heap.size ≤ w3.heap.size := hn3.size
    have N3 : New w w3 := N2.trans hn3
    have oX_3 : DrawE.R3 w3 _ _ _ _ _ _ _ _ := ⟨oX_2.1.new (by omega) hn3, oX_2.2.1.new (by omega) hn3, oX_2.2.2.new (by omega) hn3⟩
    have oY_3 : DrawE.R3 w3 _ _ _ _ _ _ _ _ := ⟨oY_2.1.new (by omega) hn3, oY_2.2.1.new (by omega) hn3, oY_2.2.2.new (by omega) hn3⟩
    have bA_3 := heap_new hn3 bA_2
    have bB_3 := heap_new hn3 bB_2
    clear oX_2 oY_2 bA_2 bB_2 hn3
    obtain ⟨t, ht⟩ : ∃ t, (pc == pd && (decide (xr = yr) && (decide (xa = ya) && decide (xb = yb)))) = t := ⟨_, rfl⟩
    have hth := Lib.hid ht
    rw [ht]
    clear ht
    have cA0 := cell_of_heap bA_3 0
    have cB0 := cell_of_heap bB_3 0
    have cA1 := cell_of_heap bA_3 1
    have cB1 := cell_of_heap bB_3 1
    have cA2 := cell_of_heap bA_3 2
    have cB2 := cell_of_heap bB_3 2
    have cA3 := cell_of_heap bA_3 3
    have cB3 := cell_of_heap bB_3 3
    have lA := heap_lt bA_3
    have lB := heap_lt bB_3
    go_wp2_with fail
    clear cA0 cB0 cA1 cB1 cA2 cB2 cA3 cB3 lA lB
    refine (SameS.specSame w3 w.heap.size w1.heap.size w.heap.size w1.heap.size pc pd _ _ _ _ _ _ xr xa yr ya xb yb oX_3.1 oX_3.2.1 oX_3.2.2 oY_3.1 oY_3.2.1 oY_3.2.2 (by omega) (by omega)).mono ?_
    rintro e w4 ⟨rfl, hn4⟩
    have z4 : w3.heap.size ≤ w4.heap.size := hn4.size
    have N4 : New w w4 := N3.trans hn4
    have oX_4 : DrawE.R3 w4 _ _ _ _ _ _ _ _ := ⟨oX_3.1.new (by omega) hn4, oX_3.2.1.new (by omega) hn4, oX_3.2.2.new (by omega) hn4⟩
    have oY_4 : DrawE.R3 w4 _ _ _ _ _ _ _ _ := ⟨oY_3.1.new (by omega) hn4, oY_3.2.1.new (by omega) hn4, oY_3.2.2.new (by omega) hn4⟩
    have bA_4 := heap_new hn4 bA_3
    have bB_4 := heap_new hn4 bB_3
    clear oX_3 oY_3 bA_3 bB_3 hn4
    rw [hth.out]
    have tt : (t == t) = true := by simp
    have cA0 := cell_of_heap bA_4 0
    have cB0 := cell_of_heap bB_4 0
    have cA1 := cell_of_heap bA_4 1
    have cB1 := cell_of_heap bB_4 1
    have cA2 := cell_of_heap bA_4 2
    have cB2 := cell_of_heap bB_4 2
    have cA3 := cell_of_heap bA_4 3
    have cB3 := cell_of_heap bB_4 3
    have lA := heap_lt bA_4
    have lB := heap_lt bB_4
    go_wp2_with fail
    clear cA0 cB0 cA1 cB1 cA2 cB2 cA3 cB3 lA lB
    refine (SameS.implSame w4 w.heap.size w1.heap.size w.heap.size w1.heap.size pd pc _ _ _ _ _ _ yr ya xr xa yb xb oY_4.1 oY_4.2.1 oY_4.2.2 oX_4.1 oX_4.2.1 oX_4.2.2 (by omega) (by omega)).mono ?_
    rintro e w5 ⟨rfl, hn5⟩
    have z5 : w4.heap.size ≤ w5.heap.size := hn5.size
    have N5 : New w w5 := N4.trans hn5
    have oX_5 : DrawE.R3 w5 _ _ _ _ _ _ _ _ := ⟨oX_4.1.new (by omega) hn5, oX_4.2.1.new (by omega) hn5, oX_4.2.2.new (by omega) hn5⟩
    have oY_5 : DrawE.R3 w5 _ _ _ _ _ _ _ _ := ⟨oY_4.1.new (by omega) hn5, oY_4.2.1.new (by omega) hn5, oY_4.2.2.new (by omega) hn5⟩
    have bA_5 := heap_new hn5 bA_4
    have bB_5 := heap_new hn5 bB_4
    clear oX_4 oY_4 bA_4 bB_4 hn5
    have ht2 : (pd == pc && (decide (yr = xr) && (decide (ya = xa) && decide (yb = xb)))) = t := by rw [← hth.out, BEq.comm (a := pd)]; simp only [eq_comm (a := yr), eq_comm (a := ya), eq_comm (a := yb)]
    rw [ht2]
    clear ht2
    have cA0 := cell_of_heap bA_5 0
    have cB0 := cell_of_heap bB_5 0
    have cA1 := cell_of_heap bA_5 1
    have cB1 := cell_of_heap bB_5 1
    have cA2 := cell_of_heap bA_5 2
    have cB2 := cell_of_heap bB_5 2
    have cA3 := cell_of_heap bA_5 3
    have cB3 := cell_of_heap bB_5 3
    have lA := heap_lt bA_5
    have lB := heap_lt bB_5
    go_wp2_with fail
    clear cA0 cB0 cA1 cB1 cA2 cB2 cA3 cB3 lA lB
    refine (SameS.implSame w5 w.heap.size w1.heap.size w.heap.size w1.heap.size pc pc _ _ _ _ _ _ xr xa xr xa xb xb oX_5.1 oX_5.2.1 oX_5.2.2 oX_5.1 oX_5.2.1 oX_5.2.2 (by omega) (by omega)).mono ?_
    rintro e w6 ⟨rfl, hn6⟩
    have N6 := N5.trans hn6
    have ht3 : (pc == pc && (decide (xr = xr) && (decide (xa = xa) && decide (xb = xb)))) = true := by simp
    rw [ht3]
    go_wp2
    go_ret
    exact ⟨rfl, N6.toBelow⟩
set_option maxRecDepth 100000 in
theorem lifted (os : Os) (started : os.Started) (H : Type) (enc : TypeId × Value → H) :
    ReturnsInHanded {} Try.checked os 7 .any (Rows.fnMachineSameSpec.pre6 enc Try.prog Try.f7 Rows.fnMachineSameRow.domain false) (Rows.fnMachineSameSpec.post enc Try.prog Try.f7 false true false false) := by
  refine returnsInHanded_of_change (C := Try.checked) own started (by kernel_rfl) Try.func7
    (ChangeSpec.witness6 (enc := enc) (C := Try.checked) false ⟨#[], #[.slice none 0 0], []⟩ 8 (by kernel_rfl) (by kernel_rfl) (by kernel_rfl) (by kernel_rfl)) ?_
  intro W base args ds gs before hval0 hW hcnd _
  have hval : ∀ (j : Nat) t v, Try.f7.params[j]? = some t → args[j]? = some v → Value.okWide Try.prog W .any base t v := hval0
  have hW' := hW
  obtain ⟨p, q, hA0, hV, rfl, hfz, hnd⟩ := hW
  have hA : DataW.TrodAll enc Try.prog W 0 (fun _ => true) true Try.f7.params.toList args.toList ds p := hA0
  rw [Try.params7] at hA hval
  obtain ⟨v0, vs0, d0, ds0, p0, q0, hargs, rfl, rfl, h0, r0⟩ := trodAll_cons hA
  obtain ⟨rfl, rfl, rfl⟩ := trodAll_nil r0
  obtain rfl : args = #[v0] := by cases args; simp_all
  obtain ⟨rfl, rfl⟩ := trodVars_none hV
  have kk0 := h0
  have lt0 : ∀ x ∈ p0, x.block < W.heap.size := by obtain ⟨m, hm⟩ := kk0; exact DataW.trod_lt m _ _ _ hm
  obtain ⟨a0, l0, c0, rfl, s0⟩ := Kit.open_bytes Try.underlying22 Try.underlying5 (by kernel_rfl) (hval 0 22 v0 rfl rfl) h0
  clear hA0 hval0
  refine (walk a0 l0 c0 W s0).mono fun e W' ⟨he, bel⟩ => ?_
  subst he
  exact ⟨_, rfl, _, _, _, [], _, [], hW', trodAll_mk1 (shut_bool Try.underlying4 _), (trodAll_cons_mk (Below.trod laidOut (by kernel_rfl) (of_decide_eq_true (by kernel_rfl)) kk0 bel lt0) trodAll_mk0), rfl, bel.frame _, fun h => by cases h⟩
theorem over : Rows.fnMachineSameRow.holds Try.pinned (OpenSpec.ofChange Rows.fnMachineSameSpec) :=
  OpenClaim.holds_of_wide 7 Try.f7 rfl rfl rfl rfl rfl rfl rfl ⟨rfl, rfl, rfl, rfl, rfl⟩ rfl rfl rfl rfl rfl (by kernel_rfl) Try.func7 (by kernel_rfl)
    (of_decide_eq_true (by kernel_rfl)) (by unfold Func.isWrapper; first | (rw [if_pos (by decide +kernel)]; kernel_rfl) | (rw [if_neg (by decide +kernel)]; exact ⟨rfl, rfl⟩))
    (fun os started H enc _ => lifted os started H enc)
theorem proved : Rows.FnMachineSameSaid := over
#print axioms proved
end Go.Proofs.Ytljokgoghphgdaa.fnMachineSame
