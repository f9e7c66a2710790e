/- FnExprKids: for every input the law returns true, and the arguments read as they did. No conditions. -/
import Derived.Test.YtbnhhmgdkiomoaaRows
import Derived.Test.YtbnhhmgdkiomoaaDrawZ
import Derived.Test.YtbnhhmgdkiomoaaExprV
import Derived.Test.YtbnhhmgdkiomoaaLawT
import Derived.Test.YtbnhhmgdkiomoaaShort
import Derived.WalkKit
import Derived.ProofKit
import Derived.OpenShut
import Derived.ShutString
import Derived.ChangeOld
import Derived.Below
namespace Go.Proofs.Ytbnhhmgdkiomoaa.fnExprKids
open Go.ChangeShapes Go.WideShapes Go.ChangeAt Go.RowKit Kit MarkC
open Go.ChangeMaps (open_string shut_string)
set_option linter.unusedVariables false
theorem own : ownKnob Try.prog.godebug = none := by kernel_rfl
theorem laidOut : laidOutB Try.prog = true := by kernel_rfl
set_option maxHeartbeats 1000000 in
theorem walk (a0 : Option Addr) (l0 c0 : Nat) (w : World) (s0 : Kit.Src w a0 l0 c0) :
    Calls Try.prog 4 #[.slice a0 l0 c0] w fun e w' => e = .returned (.bool true) ∧ Below w.heap.size w w' := by
  by_cases hl : 1048576 < l0
  · go_enter Try.func4, Try.ntmps4
    go_wp2
    go_ret
    exact ⟨rfl, Below.refl _ _⟩
  · go_enter Try.func4, Try.ntmps4
    go_wp2_with fail
    refine (DrawZ.drawExprValid _ a0 l0 c0 s0).mono ?_
    rintro e w1 ⟨va, vb, vc, ya, yb, m, k, v, s, ks, rfl, N1, hA, hB, hC, hK, hl2, hk2⟩
    obtain ⟨e1, f1, rfl, _⟩ := hA.len
    obtain ⟨e2, f2, rfl, _⟩ := hB.len
    obtain ⟨e3, f3, rfl, _⟩ := hC.len
    obtain ⟨e4, f4, rfl, _⟩ := hK.len
    have oA_1 := Lib.hid hA
    have oB_1 := Lib.hid hB
    have oC_1 := Lib.hid hC
    have oK_1 := Lib.hid hK
    clear hA hB hC hK
    have zw := N1.size
    have hn2 : New w1 ((w1.alloc (.cells #[.slice e1 ya.length f1, .slice e2 yb.length f2, .slice e3 m.length f3] 33)).alloc (.cells #[.int .i64 k, .int .i64 v, .slice e4 ks.length f4] 25)) := ((Kp.refl _ _).alloc _).alloc _
    have bA_2 : ((w1.alloc (.cells #[.slice e1 ya.length f1, .slice e2 yb.length f2, .slice e3 m.length f3] 33)).alloc (.cells #[.int .i64 k, .int .i64 v, .slice e4 ks.length f4] 25)).heap[w1.heap.size]? = some (.cells #[.slice e1 ya.length f1, .slice e2 yb.length f2, .slice e3 m.length f3] 33) := heap_old (alloc_heap _ _)
    have bB_2 : ((w1.alloc (.cells #[.slice e1 ya.length f1, .slice e2 yb.length f2, .slice e3 m.length f3] 33)).alloc (.cells #[.int .i64 k, .int .i64 v, .slice e4 ks.length f4] 25)).heap[w1.heap.size + 1]? = some (.cells #[.int .i64 k, .int .i64 v, .slice e4 ks.length f4] 25) := heap_at (by simp)
    have y2 : w1.heap.size + 1 < ((w1.alloc (.cells #[.slice e1 ya.length f1, .slice e2 yb.length f2, .slice e3 m.length f3] 33)).alloc (.cells #[.int .i64 k, .int .i64 v, .slice e4 ks.length f4] 25)).heap.size := by simp
    go_upto_region 4 with fail
    generalize ((w1.alloc (.cells #[.slice e1 ya.length f1, .slice e2 yb.length f2, .slice e3 m.length f3] 33)).alloc (.cells #[.int .i64 k, .int .i64 v, .slice e4 ks.length f4] 25)) = w2 at *
    have z2 := hn2.size
    have oA_2 := Lib.hid (oA_1.out.new (by omega) hn2)
    have oB_2 := Lib.hid (oB_1.out.new (by omega) hn2)
    have oC_2 := Lib.hid (oC_1.out.new (by omega) hn2)
    have oK_2 := Lib.hid (oK_1.out.new (by omega) hn2)
    have N2 : New w w2 := N1.trans hn2
    clear oA_1 oB_1 oC_1 oK_1 N1 hn2
    obtain ⟨t, ht⟩ : ∃ t, Val.exprB ya yb (.node k v ks) = t := ⟨_, rfl⟩
    have hth := Lib.hid ht
    clear ht
    obtain ⟨cA0, cA1, cA2⟩ := cells3 bA_2
    have lA := heap_lt bA_2
    obtain ⟨cB0, cB1, cB2⟩ := cells3 bB_2
    have lB := heap_lt bB_2
    go_wp2_with fail
    clear cA0 cA1 cA2 lA cB0 cB1 cB2 lB
    refine (ExprV.implV (xa := ya) (xb := yb) (k := k) (v := v) (l := ks) oA_2.out oB_2.out oK_2.out (by omega) (by omega)).mono ?_
    rintro e w3 ⟨rfl, hn3⟩
    have z3 := hn3.size
    have bA_3 := hn3.bk bA_2
    have bB_3 := hn3.bk bB_2
    have oA_3 := Lib.hid (oA_2.out.new (by omega) hn3)
    have oB_3 := Lib.hid (oB_2.out.new (by omega) hn3)
    have oC_3 := Lib.hid (oC_2.out.new (by omega) hn3)
    have oK_3 := Lib.hid (oK_2.out.new (by omega) hn3)
    have N3 : New w w3 := N2.trans hn3
    clear bA_2 bB_2 oA_2 oB_2 oC_2 oK_2 N2 hn3
    rw [hth.out]
    obtain ⟨cA0, cA1, cA2⟩ := cells3 bA_3
    have lA := heap_lt bA_3
    obtain ⟨cB0, cB1, cB2⟩ := cells3 bB_3
    have lB := heap_lt bB_3
    go_wp2_with fail
    clear cA0 cA1 cA2 lA cB0 cB1 cB2 lB
    refine (ExprV.specV (xa := ya) (xb := yb) (k := k) (v := v) (l := ks) oA_3.out oB_3.out oK_3.out (by omega) (by omega) (by omega)).mono ?_
    rintro e w4 ⟨rfl, hn4⟩
    have z4 := hn4.size
    have bA_4 := hn4.bk bA_3
    have bB_4 := hn4.bk bB_3
    have oA_4 := Lib.hid (oA_3.out.new (by omega) hn4)
    have oB_4 := Lib.hid (oB_3.out.new (by omega) hn4)
    have oC_4 := Lib.hid (oC_3.out.new (by omega) hn4)
    have oK_4 := Lib.hid (oK_3.out.new (by omega) hn4)
    have N4 : New w w4 := N3.trans hn4
    clear bA_3 bB_3 oA_3 oB_3 oC_3 oK_3 N3 hn4
    rw [hth.out]
    cases t
    · obtain ⟨cA0, cA1, cA2⟩ := cells3 bA_4
      have lA := heap_lt bA_4
      obtain ⟨cB0, cB1, cB2⟩ := cells3 bB_4
      have lB := heap_lt bB_4
      go_wp2_with fail
      clear cA0 cA1 cA2 lA cB0 cB1 cB2 lB
      refine (ExprV.specV (xa := ya) (xb := yb) (k := k) (v := v) (l := ks) oA_4.out oB_4.out oK_4.out (by omega) (by omega) (by omega)).mono ?_
      rintro e wr ⟨rfl, hn5⟩
      have z5 := hn5.size
      have bA_5 := hn5.bk bA_4
      have bB_5 := hn5.bk bB_4
      have oA_5 := Lib.hid (oA_4.out.new (by omega) hn5)
      have oB_5 := Lib.hid (oB_4.out.new (by omega) hn5)
      have oC_5 := Lib.hid (oC_4.out.new (by omega) hn5)
      have oK_5 := Lib.hid (oK_4.out.new (by omega) hn5)
      have N5 : New w wr := N4.trans hn5
      clear bA_4 bB_4 oA_4 oB_4 oC_4 oK_4 N4 hn5
      rw [hth.out]
      obtain ⟨cA0, cA1, cA2⟩ := cells3 bA_5
      have lA := heap_lt bA_5
      obtain ⟨cB0, cB1, cB2⟩ := cells3 bB_5
      have lB := heap_lt bB_5
      go_wp2
      go_ret
      exact ⟨rfl, N5.toBelow⟩
    · obtain ⟨cA0, cA1, cA2⟩ := cells3 bA_4
      have lA := heap_lt bA_4
      obtain ⟨cB0, cB1, cB2⟩ := cells3 bB_4
      have lB := heap_lt bB_4
      go_wp2_with fail
      go_loopw [6] (fun i wr => ∃ j : Nat, j ≤ ks.length ∧ i = .int .i64 j ∧ New w4 wr) (fun i _ => ks.length - (intOf i).toNat)
      case atStart => exact ⟨0, Nat.zero_le _, rfl, Kp.refl _ _⟩
      case round =>
        clear cA0 cA1 cA2 lA cB0 cB1 cB2 lB
        obtain ⟨j, hj, rfl, hnr⟩ := hrel
        have hn5 := hnr
        have hnN := hn5
        have z5 := hn5.size
        have bA_5 := hn5.bk bA_4
        have bB_5 := hn5.bk bB_4
        have oA_5 := Lib.hid (oA_4.out.new (by omega) hn5)
        have oB_5 := Lib.hid (oB_4.out.new (by omega) hn5)
        have oC_5 := Lib.hid (oC_4.out.new (by omega) hn5)
        have oK_5 := Lib.hid (oK_4.out.new (by omega) hn5)
        have N5 : New w wr := N4.trans hn5
        by_cases hlt : j < ks.length
        · obtain ⟨gb, go_, gs, ge, gl1, gl2, g0, g1, g2, gk⟩ := oK_5.out.at j hlt
          cases ge
          obtain ⟨a6, d6, rfl, _⟩ := gk.len
          have gkh := Lib.hid gk
          have hx := Lib.hid (LawT.exprB_kids hth.out j hlt)
          have hxe : ks[j] = .node ks[j].kind ks[j].val ks[j].kids := by cases ks[j]; rfl
          have hx2 := Lib.hid (show Val.exprB ya yb (.node ks[j].kind ks[j].val ks[j].kids) = true by rw [← hxe]; exact hx.out)
          clear hx hxe gk
          generalize ks[j] = x at *
          obtain ⟨cA0, cA1, cA2⟩ := cells3 bA_5
          have lA := heap_lt bA_5
          obtain ⟨cB0, cB1, cB2⟩ := cells3 bB_5
          have lB := heap_lt bB_5
          go_wp2_with fail
          clear cA0 cA1 cA2 lA cB0 cB1 cB2 lB
          have hnd : New wr wr.drew := (Kp.refl _ _).drew
          refine wp_region_held_drew (S := fun w' => w'.cell? ⟨w1.heap.size, 0, none⟩ = some (.slice e1 ya.length f1) ∧ w'.cell? ⟨w1.heap.size, 1, none⟩ = some (.slice e2 yb.length f2) ∧ w'.cell? ⟨w1.heap.size, 2, none⟩ = some (.slice e3 m.length f3) ∧ w'.cell? ⟨w1.heap.size + 1, 2, none⟩ = some (.slice (some ⟨gb, go_, none⟩) ks.length f4) ∧ w'.cell? ⟨gb, go_ + j * 3, none⟩ = some (.int .i64 x.kind) ∧ w'.cell? ⟨gb, go_ + j * 3 + 1, none⟩ = some (.int .i64 x.val) ∧ w'.cell? ⟨gb, go_ + j * 3 + 2, none⟩ = some (.slice a6 x.kids.length d6)) (by kernel_rfl) ?_ (fun hHeld => ?_)
          · exact ⟨cell_of_heap bA_5 0, cell_of_heap bA_5 1, cell_of_heap bA_5 2, cell_of_heap bB_5 2, g0, g1, g2⟩
          refine HT 0 rfl ?_
          try simp only [AP]
          refine HT 1 rfl ?_
          try simp only [AP]
          refine HT 2 rfl ?_
          try simp only [AP]
          refine HT 3 rfl ?_
          try simp only [AP]
          refine HT 4 rfl ?_
          try simp only [AP]
          refine HT 5 rfl ?_
          try simp only [AP]
          refine HR 6 rfl fun K hK => ?_
          go_simp
          refine (ExprV.implV (xa := ya) (xb := yb) (k := x.kind) (v := x.val) (l := x.kids) (oA_5.out.new (by omega) hnd) (oB_5.out.new (by omega) hnd) (gkh.out.new (by omega) hnd) (by have := hnd.size; omega) (by have := hnd.size; omega)).mono ?_
          rintro e w6 ⟨rfl, hn6⟩
          rw [hx2.out]
          have hq6 := hnd.trans hn6
          have bA_6 := hq6.bk bA_5
          have bB_6 := hq6.bk bB_5
          have h0 := (hq6.cell (cell_lt g0) (fun f => f) _).trans g0
          have h1 := (hq6.cell (cell_lt g1) (fun f => f) _).trans g1
          have h2 := (hq6.cell (cell_lt g2) (fun f => f) _).trans g2
          go_simp
          refine hK.out _ _ ?_ (fun hHeld2 => ?_)
          · exact ⟨cell_of_heap bA_6 0, cell_of_heap bA_6 1, cell_of_heap bA_6 2, cell_of_heap bB_6 2, h0, h1, h2⟩
          clear hK K hHeld
          have hHeld := hHeld2
          clear hHeld2
          try simp only [AP]
          refine HT 7 rfl ?_
          try simp only [AP]
          refine wpAnyH_done (by kernel_rfl) ?_ _
          go_wp2
          go_roundw
          case rel => exact ⟨j + 1, by omega, by go_num, hnN.trans hq6⟩
          case measure => simp [intOf]; omega
        · have hge : ks.length ≤ j := by omega
          clear hlt
          obtain ⟨cA0, cA1, cA2⟩ := cells3 bA_5
          have lA := heap_lt bA_5
          obtain ⟨cB0, cB1, cB2⟩ := cells3 bB_5
          have lB := heap_lt bB_5
          go_wp2
          go_ret
          exact ⟨rfl, N5.toBelow⟩
set_option maxRecDepth 100000 in
theorem lifted (os : Os) (started : os.Started) (H : Type) (enc : TypeId × Value → H) :
    ReturnsInHanded {} Try.checked os 4 .any (Rows.fnExprKidsSpec.pre6 enc Try.prog Try.f4 Rows.fnExprKidsRow.domain false) (Rows.fnExprKidsSpec.post enc Try.prog Try.f4 false true false false) := by
  refine returnsInHanded_of_change (C := Try.checked) own started (by kernel_rfl) Try.func4
    (ChangeSpec.witness6 (enc := enc) (C := Try.checked) false ⟨#[], #[.slice none 0 0], []⟩ 8 (by kernel_rfl) (by kernel_rfl) (by kernel_rfl) (by kernel_rfl)) ?_
  intro W base args ds gs before hval0 hW hcnd _
  have hval : ∀ (j : Nat) t v, Try.f4.params[j]? = some t → args[j]? = some v → Value.okWide Try.prog W .any base t v := hval0
  have hW' := hW
  obtain ⟨p, q, hA0, hV, rfl, hfz, hnd⟩ := hW
  have hA : DataW.TrodAll enc Try.prog W 0 (fun _ => true) true Try.f4.params.toList args.toList ds p := hA0
  rw [Try.params4] at hA hval
  obtain ⟨v0, vs0, d0, ds0, p0, q0, hargs, rfl, rfl, h0, r0⟩ := trodAll_cons hA
  obtain ⟨rfl, rfl, rfl⟩ := trodAll_nil r0
  obtain rfl : args = #[v0] := by cases args; simp_all
  obtain ⟨rfl, rfl⟩ := trodVars_none hV
  have kk0 := h0
  have lt0 : ∀ x ∈ p0, x.block < W.heap.size := by obtain ⟨m, hm⟩ := kk0; exact DataW.trod_lt m _ _ _ hm
  obtain ⟨a0, l0, c0, rfl, s0⟩ := Kit.open_bytes Try.underlying22 Try.underlying5 (by kernel_rfl) (hval 0 22 v0 rfl rfl) h0
  clear hA0 hval0
  refine (walk a0 l0 c0 W s0).mono fun e W' ⟨he, bel⟩ => ?_
  subst he
  exact ⟨_, rfl, _, _, _, [], _, [], hW', trodAll_mk1 (shut_bool Try.underlying4 _), (trodAll_cons_mk (Below.trod laidOut (by kernel_rfl) (of_decide_eq_true (by kernel_rfl)) kk0 bel lt0) trodAll_mk0), rfl, bel.frame _, fun h => by cases h⟩
theorem over : Rows.fnExprKidsRow.holds Try.pinned (OpenSpec.ofChange Rows.fnExprKidsSpec) :=
  OpenClaim.holds_of_wide 4 Try.f4 rfl rfl rfl rfl rfl rfl rfl ⟨rfl, rfl, rfl, rfl, rfl⟩ rfl rfl rfl rfl rfl (by kernel_rfl) Try.func4 (by kernel_rfl)
    (of_decide_eq_true (by kernel_rfl)) (by unfold Func.isWrapper; first | (rw [if_pos (by decide +kernel)]; kernel_rfl) | (rw [if_neg (by decide +kernel)]; exact ⟨rfl, rfl⟩))
    (fun os started H enc _ => lifted os started H enc)
theorem proved : Rows.FnExprKidsSaid := over
#print axioms proved
end Go.Proofs.Ytbnhhmgdkiomoaa.fnExprKids
