/- FnCountStmts: for every input the law returns true, and the arguments read as they did. No conditions. -/
import Derived.Test.YtbnhhmgdkiomoaaRows
import Derived.Test.YtbnhhmgdkiomoaaDrawY
import Derived.Test.YtbnhhmgdkiomoaaPgmV
import Derived.Test.YtbnhhmgdkiomoaaCountC
import Derived.Test.YtbnhhmgdkiomoaaLawT
import Derived.Test.YtbnhhmgdkiomoaaShort
import Derived.WalkKit
import Derived.ProofKit
import Derived.OpenShut
import Derived.ShutString
import Derived.ChangeOld
import Derived.Below
namespace Go.Proofs.Ytbnhhmgdkiomoaa.fnCountStmts
open Go.ChangeShapes Go.WideShapes Go.ChangeAt Go.RowKit Kit MarkC
open Go.ChangeMaps (open_string shut_string)
set_option linter.unusedVariables false
theorem own : ownKnob Try.prog.godebug = none := by kernel_rfl
theorem laidOut : laidOutB Try.prog = true := by kernel_rfl
set_option maxHeartbeats 1000000 in
theorem walk (a0 : Option Addr) (l0 c0 : Nat) (a1 : Option Addr) (l1 c1 : Nat) (w : World) (s0 : Kit.Src w a0 l0 c0) (s1 : Kit.Src w a1 l1 c1) :
    Calls Try.prog 6 #[.slice a0 l0 c0, .slice a1 l1 c1] w fun e w' => e = .returned (.bool true) ∧ Below w.heap.size w w' := by
  by_cases hl : 1048576 < l0
  · go_enter Try.func6, Try.ntmps6
    go_wp2
    go_ret
    exact ⟨rfl, Below.refl _ _⟩
  have hl1 : ¬ 1048576 < l0 := hl
  clear hl
  by_cases hl : 1048576 < l1
  · go_enter Try.func6, Try.ntmps6
    go_wp2
    go_ret
    exact ⟨rfl, Below.refl _ _⟩
  · go_enter Try.func6, Try.ntmps6
    go_wp2_with fail
    refine (DrawY.drawCount _ a0 l0 c0 s0).mono ?_
    rintro e w1 ⟨va, vb, vc, ya, yb, m, rfl, N1, hA, hB, hC, hl2⟩
    obtain ⟨e1, f1, rfl, _⟩ := hA.len
    obtain ⟨e2, f2, rfl, _⟩ := hB.len
    obtain ⟨e3, f3, rfl, _⟩ := hC.len
    have hml : m.length ≤ 1000000 := by have := St.length_sizes m; omega
    have oA_1 := Lib.hid hA
    have oB_1 := Lib.hid hB
    have oC_1 := Lib.hid hC
    clear hA hB hC
    have zw := N1.size
    have hn2 : New w1 (w1.alloc (.cells #[.slice e1 ya.length f1, .slice e2 yb.length f2, .slice e3 m.length f3] 33)) := (Kp.refl _ _).alloc _
    have bA_2 : (w1.alloc (.cells #[.slice e1 ya.length f1, .slice e2 yb.length f2, .slice e3 m.length f3] 33)).heap[w1.heap.size]? = some (.cells #[.slice e1 ya.length f1, .slice e2 yb.length f2, .slice e3 m.length f3] 33) := alloc_heap _ _
    have y2 : w1.heap.size < (w1.alloc (.cells #[.slice e1 ya.length f1, .slice e2 yb.length f2, .slice e3 m.length f3] 33)).heap.size := by simp
    go_upto_region 4 with fail
    generalize (w1.alloc (.cells #[.slice e1 ya.length f1, .slice e2 yb.length f2, .slice e3 m.length f3] 33)) = w2 at *
    have z2 := hn2.size
    have oA_2 := Lib.hid (oA_1.out.new (by omega) hn2)
    have oB_2 := Lib.hid (oB_1.out.new (by omega) hn2)
    have oC_2 := Lib.hid (oC_1.out.new (by omega) hn2)
    have N2 : New w w2 := N1.trans hn2
    clear oA_1 oB_1 oC_1 N1 hn2
    obtain ⟨n, hn⟩ : ∃ n, Val.cntB ya yb m = n := ⟨_, rfl⟩
    have hnh := Lib.hid hn
    clear hn
    have hnn : (n != n) = false := by simp
    have hne : (n == n) = true := by simp
    obtain ⟨cA0, cA1, cA2⟩ := cells3 bA_2
    have lA := heap_lt bA_2
    go_wp2_with fail
    clear cA0 cA1 cA2 lA
    refine (CountC.implC (xa := ya) (xb := yb) (l := m) oA_2.out oB_2.out oC_2.out (by omega)).mono ?_
    rintro e w3 ⟨rfl, hn3⟩
    have z3 := hn3.size
    have bA_3 := hn3.bk bA_2
    have oA_3 := Lib.hid (oA_2.out.new (by omega) hn3)
    have oB_3 := Lib.hid (oB_2.out.new (by omega) hn3)
    have oC_3 := Lib.hid (oC_2.out.new (by omega) hn3)
    have N3 : New w w3 := N2.trans hn3
    clear bA_2 oA_2 oB_2 oC_2 N2 hn3
    rw [hnh.out]
    obtain ⟨cA0, cA1, cA2⟩ := cells3 bA_3
    have lA := heap_lt bA_3
    go_wp2_with fail
    clear cA0 cA1 cA2 lA
    refine (CountC.specC (xa := ya) (xb := yb) (l := m) oA_3.out oB_3.out oC_3.out (by omega) (by omega)).mono ?_
    rintro e w4 ⟨rfl, hn4⟩
    have z4 := hn4.size
    have bA_4 := hn4.bk bA_3
    have oA_4 := Lib.hid (oA_3.out.new (by omega) hn4)
    have oB_4 := Lib.hid (oB_3.out.new (by omega) hn4)
    have oC_4 := Lib.hid (oC_3.out.new (by omega) hn4)
    have N4 : New w w4 := N3.trans hn4
    clear bA_3 oA_3 oB_3 oC_3 N3 hn4
    rw [hnh.out]
    obtain ⟨cA0, cA1, cA2⟩ := cells3 bA_4
    have lA := heap_lt bA_4
    go_wp2_with fail
    clear cA0 cA1 cA2 lA
    refine (PgmV.specP (xa := ya) (xb := yb) (l := m) oA_4.out oB_4.out oC_4.out (by omega) (by omega)).mono ?_
    rintro e w5 ⟨rfl, hn5⟩
    have z5 := hn5.size
    have bA_5 := hn5.bk bA_4
    have oA_5 := Lib.hid (oA_4.out.new (by omega) hn5)
    have oB_5 := Lib.hid (oB_4.out.new (by omega) hn5)
    have oC_5 := Lib.hid (oC_4.out.new (by omega) hn5)
    have N5 : New w w5 := N4.trans hn5
    clear bA_4 oA_4 oB_4 oC_4 N4 hn5
    cases hp : Val.progB ya yb m
    · clear hp
      obtain ⟨cA0, cA1, cA2⟩ := cells3 bA_5
      have lA := heap_lt bA_5
      go_wp2_with fail
      clear cA0 cA1 cA2 lA
      refine (CountC.specC (xa := ya) (xb := yb) (l := m) oA_5.out oB_5.out oC_5.out (by omega) (by omega)).mono ?_
      rintro e w6 ⟨rfl, hn6⟩
      have z6 := hn6.size
      have bA_6 := hn6.bk bA_5
      have oA_6 := Lib.hid (oA_5.out.new (by omega) hn6)
      have oB_6 := Lib.hid (oB_5.out.new (by omega) hn6)
      have oC_6 := Lib.hid (oC_5.out.new (by omega) hn6)
      have N6 : New w w6 := N5.trans hn6
      clear bA_5 oA_5 oB_5 oC_5 N5 hn6
      rw [hnh.out]
      obtain ⟨cA0, cA1, cA2⟩ := cells3 bA_6
      have lA := heap_lt bA_6
      go_wp2
      go_ret
      exact ⟨rfl, N6.toBelow⟩
    · obtain ⟨kk, hkk⟩ : ∃ kk, l1 % (m.length + 1) = kk := ⟨_, rfl⟩
      have hkl : kk ≤ m.length := hkk ▸ Nat.le_of_lt_succ (Nat.mod_lt l1 (Nat.succ_pos _))
      have hw : (l1 : Int) % ((m.length : Int) + 1) = (kk : Int) := by rw [← hkk]; simp
      clear hkk
      have hcap := LawT.sts_cap oC_5.out
      have hkf : kk ≤ f3 := Nat.le_trans hkl hcap
      obtain ⟨hp1, hp2⟩ := LawT.progB_split kk hp
      have hN := Lib.hid (Val.valid_N hp)
      have hn2 := Lib.hid (show n = (Val.stsN m : Int) by rw [← hnh.out, Val.cntB, hp]; rfl)
      have hs := Lib.hid (LawT.stsN_split m kk)
      have hlen := Lib.hid (LawT.length_stsN m)
      have hc1 := Lib.hid (show Val.cntB ya yb (m.take kk) = (Val.stsN (m.take kk) : Int) by rw [Val.cntB, hp1]; rfl)
      have hc2 := Lib.hid (show Val.cntB ya yb (m.drop kk) = (Val.stsN (m.drop kk) : Int) by rw [Val.cntB, hp2]; rfl)
      clear hp hp1 hp2
      obtain ⟨cA0, cA1, cA2⟩ := cells3 bA_5
      have lA := heap_lt bA_5
      go_wp2_with fail
      rw [hw]
      clear hw
      clear cA0 cA1 cA2 lA
      have hnd : New w5 w5.drew := (Kp.refl _ _).drew
      refine wp_region_held_drew (S := fun w' => w'.cell? ⟨w1.heap.size, 0, none⟩ = some (.slice e1 ya.length f1) ∧ w'.cell? ⟨w1.heap.size, 1, none⟩ = some (.slice e2 yb.length f2) ∧ w'.cell? ⟨w1.heap.size, 2, none⟩ = some (.slice e3 m.length f3)) (by kernel_rfl) ?_ (fun hHeld => ?_)
      · exact ⟨cell_of_heap bA_5 0, cell_of_heap bA_5 1, cell_of_heap bA_5 2⟩
      refine HT 0 rfl ?_
      try simp only [AP]
      refine HT 1 rfl ?_
      try simp only [AP]
      refine HT 2 rfl ?_
      try simp only [AP]
      refine HT 3 rfl ?_
      try simp only [AP]
      refine HT 4 rfl ?_
      try simp only [AP]
      refine HT 5 rfl ?_
      try simp only [AP]
      refine HT 6 rfl ?_
      try simp only [AP]
      refine HT 7 rfl ?_
      try simp only [AP]
      refine HT 8 rfl ?_
      try simp only [AP]
      refine HR 9 rfl fun K hK => ?_
      go_simp
      refine (CountC.implC (xa := ya) (xb := yb) (l := m.take kk) (oA_5.out.new (by omega) hnd) (oB_5.out.new (by omega) hnd) (LawT.sts_take (oC_5.out.new (by omega) hnd) kk hkl) (by have := hnd.size; omega)).mono ?_
      rintro e w6 ⟨rfl, hn6⟩
      rw [hc1.out]
      have hq6 := hnd.trans hn6
      have bA_6 := hq6.bk bA_5
      go_simp
      refine hK.out _ _ ?_ (fun hHeld2 => ?_)
      · exact ⟨cell_of_heap bA_6 0, cell_of_heap bA_6 1, cell_of_heap bA_6 2⟩
      clear hK K hHeld
      have hHeld := hHeld2
      clear hHeld2
      try simp only [AP]
      refine HT 10 rfl ?_
      try simp only [AP]
      refine wpAnyH_done (by kernel_rfl) ?_ _
      have hn6 := hq6
      clear hnd hq6 bA_6
      have z6 := hn6.size
      have bA_6 := hn6.bk bA_5
      have oA_6 := Lib.hid (oA_5.out.new (by omega) hn6)
      have oB_6 := Lib.hid (oB_5.out.new (by omega) hn6)
      have oC_6 := Lib.hid (oC_5.out.new (by omega) hn6)
      have N6 : New w w6 := N5.trans hn6
      clear bA_5 oA_5 oB_5 oC_5 N5 hn6
      obtain ⟨cA0, cA1, cA2⟩ := cells3 bA_6
      have lA := heap_lt bA_6
      go_wp2_with fail
      clear cA0 cA1 cA2 lA
      have hnd : New w6 w6.drew := (Kp.refl _ _).drew
      refine wp_region_held_drew (S := fun w' => w'.cell? ⟨w1.heap.size, 0, none⟩ = some (.slice e1 ya.length f1) ∧ w'.cell? ⟨w1.heap.size, 1, none⟩ = some (.slice e2 yb.length f2) ∧ w'.cell? ⟨w1.heap.size, 2, none⟩ = some (.slice e3 m.length f3)) (by kernel_rfl) ?_ (fun hHeld => ?_)
      · exact ⟨cell_of_heap bA_6 0, cell_of_heap bA_6 1, cell_of_heap bA_6 2⟩
      refine HT 0 rfl ?_
      try simp only [AP]
      refine HT 1 rfl ?_
      try simp only [AP]
      refine HT 2 rfl ?_
      try simp only [AP]
      refine HT 3 rfl ?_
      try simp only [AP]
      refine HT 4 rfl ?_
      try simp only [AP]
      refine HT 5 rfl ?_
      try simp only [AP]
      refine HT 6 rfl ?_
      try simp only [AP]
      refine HT 7 rfl ?_
      try simp only [AP]
      refine HT 8 rfl ?_
      try simp only [AP]
      refine HR 9 rfl fun K hK => ?_
      go_simp
      refine (CountC.implC (xa := ya) (xb := yb) (l := m.drop kk) (oA_6.out.new (by omega) hnd) (oB_6.out.new (by omega) hnd) (LawT.sts_from (oC_6.out.new (by omega) hnd) kk hkl) (by have := hnd.size; omega)).mono ?_
      rintro e w7 ⟨rfl, hn7⟩
      rw [hc2.out]
      have hq7 := hnd.trans hn7
      have bA_7 := hq7.bk bA_6
      go_simp
      refine hK.out _ _ ?_ (fun hHeld2 => ?_)
      · exact ⟨cell_of_heap bA_7 0, cell_of_heap bA_7 1, cell_of_heap bA_7 2⟩
      clear hK K hHeld
      have hHeld := hHeld2
      clear hHeld2
      try simp only [AP]
      refine HT 10 rfl ?_
      try simp only [AP]
      refine wpAnyH_done (by kernel_rfl) ?_ _
      have hn7 := hq7
      clear hnd hq7 bA_7
      have z7 := hn7.size
      have bA_7 := hn7.bk bA_6
      have oA_7 := Lib.hid (oA_6.out.new (by omega) hn7)
      have oB_7 := Lib.hid (oB_6.out.new (by omega) hn7)
      have oC_7 := Lib.hid (oC_6.out.new (by omega) hn7)
      have N7 : New w w7 := N6.trans hn7
      clear bA_6 oA_6 oB_6 oC_6 N6 hn7
      have hx1 : IntKind.i64.wrap ((Val.stsN (m.take kk) : Int) + (Val.stsN (m.drop kk) : Int)) = n := by rw [IntWalk.i64_in _ (by have := hN.out.1; have := hs.out; omega), hn2.out, hs.out]; simp
      have hx2 : decide ((m.length : Int) ≤ n) = true := by rw [decide_eq_true_eq, hn2.out]; have := hlen.out; omega
      have hx3 : decide (n ≤ 60) = true := by rw [decide_eq_true_eq, hn2.out]; have := hN.out.1; omega
      generalize (Val.stsN (m.take kk) : Int) = n1 at *
      generalize (Val.stsN (m.drop kk) : Int) = n2 at *
      clear hN hs hlen hn2 hc1 hc2 hnh
      obtain ⟨cA0, cA1, cA2⟩ := cells3 bA_7
      have lA := heap_lt bA_7
      go_wp2 <;> (go_ret; exact ⟨rfl, N7.toBelow⟩)
set_option maxRecDepth 100000 in
theorem lifted (os : Os) (started : os.Started) (H : Type) (enc : TypeId × Value → H) :
    ReturnsInHanded {} Try.checked os 6 .any (Rows.fnCountStmtsSpec.pre6 enc Try.prog Try.f6 Rows.fnCountStmtsRow.domain false) (Rows.fnCountStmtsSpec.post enc Try.prog Try.f6 false true false false) := by
  refine returnsInHanded_of_change (C := Try.checked) own started (by kernel_rfl) Try.func6
    (ChangeSpec.witness6 (enc := enc) (C := Try.checked) false ⟨#[], #[.slice none 0 0, .slice none 0 0], []⟩ 8 (by kernel_rfl) (by kernel_rfl) (by kernel_rfl) (by kernel_rfl)) ?_
  intro W base args ds gs before hval0 hW hcnd _
  have hval : ∀ (j : Nat) t v, Try.f6.params[j]? = some t → args[j]? = some v → Value.okWide Try.prog W .any base t v := hval0
  have hW' := hW
  obtain ⟨p, q, hA0, hV, rfl, hfz, hnd⟩ := hW
  have hA : DataW.TrodAll enc Try.prog W 0 (fun _ => true) true Try.f6.params.toList args.toList ds p := hA0
  rw [Try.params6] at hA hval
  obtain ⟨v0, vs0, d0, ds0, p0, q0, hargs, rfl, rfl, h0, r0⟩ := trodAll_cons hA
  obtain ⟨v1, vs1, d1, ds1, p1, q1, rfl, rfl, rfl, h1, r1⟩ := trodAll_cons r0
  obtain ⟨rfl, rfl, rfl⟩ := trodAll_nil r1
  obtain rfl : args = #[v0, v1] := by cases args; simp_all
  obtain ⟨rfl, rfl⟩ := trodVars_none hV
  have kk0 := h0
  have lt0 : ∀ x ∈ p0, x.block < W.heap.size := by obtain ⟨m, hm⟩ := kk0; exact DataW.trod_lt m _ _ _ hm
  obtain ⟨a0, l0, c0, rfl, s0⟩ := Kit.open_bytes Try.underlying22 Try.underlying5 (by kernel_rfl) (hval 0 22 v0 rfl rfl) h0
  have kk1 := h1
  have lt1 : ∀ x ∈ p1, x.block < W.heap.size := by obtain ⟨m, hm⟩ := kk1; exact DataW.trod_lt m _ _ _ hm
  obtain ⟨a1, l1, c1, rfl, s1⟩ := Kit.open_bytes Try.underlying22 Try.underlying5 (by kernel_rfl) (hval 1 22 v1 rfl rfl) h1
  clear hA0 hval0
  refine (walk a0 l0 c0 a1 l1 c1 W s0 s1).mono fun e W' ⟨he, bel⟩ => ?_
  subst he
  exact ⟨_, rfl, _, _, _, [], _, [], hW', trodAll_mk1 (shut_bool Try.underlying4 _), (trodAll_cons_mk (Below.trod laidOut (by kernel_rfl) (of_decide_eq_true (by kernel_rfl)) kk0 bel lt0) (trodAll_cons_mk (Below.trod laidOut (by kernel_rfl) (of_decide_eq_true (by kernel_rfl)) kk1 bel lt1) trodAll_mk0)), rfl, bel.frame _, fun h => by cases h⟩
theorem over : Rows.fnCountStmtsRow.holds Try.pinned (OpenSpec.ofChange Rows.fnCountStmtsSpec) :=
  OpenClaim.holds_of_wide 6 Try.f6 rfl rfl rfl rfl rfl rfl rfl ⟨rfl, rfl, rfl, rfl, rfl⟩ rfl rfl rfl rfl rfl (by kernel_rfl) Try.func6 (by kernel_rfl)
    (of_decide_eq_true (by kernel_rfl)) (by unfold Func.isWrapper; first | (rw [if_pos (by decide +kernel)]; kernel_rfl) | (rw [if_neg (by decide +kernel)]; exact ⟨rfl, rfl⟩))
    (fun os started H enc _ => lifted os started H enc)
theorem proved : Rows.FnCountStmtsSaid := over
#print axioms proved
end Go.Proofs.Ytbnhhmgdkiomoaa.fnCountStmts
