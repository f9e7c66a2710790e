/- eqStmt, eqStmtS of laws. Condition: at most 2^20 nodes. -/
import Derived.Test.YtckikiaockkmbaaDoorYP4
import Derived.Test.YtckikiaockkmbaaDoorYEqE
import Derived.Test.YtckikiaockkmbaaDoorYP1
namespace Go.Proofs.YtckikiaockkmbaaDoor.EqS
open Go.RowKit Kit
set_option linter.unusedVariables false
def Does (n : Nat) : Prop := ∀ (w : World) (lo hi lo' hi' : Nat) (s t : Value) (l m : List St), St.sizes l < n → StsR w lo hi s l → StsR w lo' hi' t m → hi ≤ w.heap.size → hi' ≤ w.heap.size →
  Calls Tryd.prog 37 #[s, t] w fun e w' => e = .returned (.bool (St.sames l m)) ∧ New w w'
set_option maxHeartbeats 2000000 in
theorem eqStmt_step (n : Nat) (H : Does n) (w : World) (lo hi lo' hi' : Nat) (k t ik iv vk vv c : Int) (si sv sb se : Value) (li lv : List Ex) (lb le : List St) (k2 t2 ik2 iv2 vk2 vv2 c2 : Int) (ui uv ub ue : Value) (mi mv : List Ex) (mb me : List St) (q1 : St.sizes lb < n) (q2 : St.sizes le < n) (ri : KidsR w lo hi si li) (rv : KidsR w lo hi sv lv) (rb : StsR w lo hi sb lb) (re : StsR w lo hi se le) (di : KidsR w lo' hi' ui mi) (dv : KidsR w lo' hi' uv mv) (db : StsR w lo' hi' ub mb) (de : StsR w lo' hi' ue me) (h1 : hi ≤ w.heap.size) (h2 : hi' ≤ w.heap.size) :
    Calls Tryd.prog 56 #[.agg #[.int .i64 k, .int .i64 t, .int .i64 ik, .int .i64 iv, si, .int .i64 vk, .int .i64 vv, sv, .int .i64 c, sb, se], .agg #[.int .i64 k2, .int .i64 t2, .int .i64 ik2, .int .i64 iv2, ui, .int .i64 vk2, .int .i64 vv2, uv, .int .i64 c2, ub, ue]] w fun e w' => e = .returned (.bool (k == k2 && t == t2 && Ex.same (.node ik iv li) (.node ik2 iv2 mi) && Ex.same (.node vk vv lv) (.node vk2 vv2 mv) && c == c2 && St.sames lb mb && St.sames le me)) ∧ New w w' := by
  have HH := Lib.hid H; clear H
  cases hk : (k == k2)
  · have hk2 : (k != k2) = true := by rw [bne, hk]; rfl
    clear HH
    go_enter Tryd.func56, Tryd.ntmps56
    go_wp2_with fail
    go_ret
    exact ⟨retB (by simp), ((Kp.refl _ _).alloc _).alloc _⟩
  have hk2 : (k != k2) = false := by rw [bne, hk]; rfl
  cases ht : (t == t2)
  · have ht2 : (t != t2) = true := by rw [bne, ht]; rfl
    clear HH
    go_enter Tryd.func56, Tryd.ntmps56
    go_wp2_with fail
    go_ret
    exact ⟨retB (by simp), ((Kp.refl _ _).alloc _).alloc _⟩
  have ht2 : (t != t2) = false := by rw [bne, ht]; rfl
  go_enter Tryd.func56, Tryd.ntmps56
  go_wp2_with fail
  have N0 : New w ((w.alloc (.cells #[.int .i64 k, .int .i64 t, .int .i64 ik, .int .i64 iv, si, .int .i64 vk, .int .i64 vv, sv, .int .i64 c, sb, se] 92)).alloc (.cells #[.int .i64 k2, .int .i64 t2, .int .i64 ik2, .int .i64 iv2, ui, .int .i64 vk2, .int .i64 vv2, uv, .int .i64 c2, ub, ue] 92)) := (((Kp.refl _ _).alloc _).alloc _)
  have bA_0 : ((w.alloc (.cells #[.int .i64 k, .int .i64 t, .int .i64 ik, .int .i64 iv, si, .int .i64 vk, .int .i64 vv, sv, .int .i64 c, sb, se] 92)).alloc (.cells #[.int .i64 k2, .int .i64 t2, .int .i64 ik2, .int .i64 iv2, ui, .int .i64 vk2, .int .i64 vv2, uv, .int .i64 c2, ub, ue] 92)).heap[w.heap.size]? = some (.cells #[.int .i64 k, .int .i64 t, .int .i64 ik, .int .i64 iv, si, .int .i64 vk, .int .i64 vv, sv, .int .i64 c, sb, se] 92) := heap_old (alloc_heap _ _)
  have bB_0 : ((w.alloc (.cells #[.int .i64 k, .int .i64 t, .int .i64 ik, .int .i64 iv, si, .int .i64 vk, .int .i64 vv, sv, .int .i64 c, sb, se] 92)).alloc (.cells #[.int .i64 k2, .int .i64 t2, .int .i64 ik2, .int .i64 iv2, ui, .int .i64 vk2, .int .i64 vv2, uv, .int .i64 c2, ub, ue] 92)).heap[w.heap.size + 1]? = some (.cells #[.int .i64 k2, .int .i64 t2, .int .i64 ik2, .int .i64 iv2, ui, .int .i64 vk2, .int .i64 vv2, uv, .int .i64 c2, ub, ue] 92) := heap_at (by simp)
  have z0 : w.heap.size + 1 < ((w.alloc (.cells #[.int .i64 k, .int .i64 t, .int .i64 ik, .int .i64 iv, si, .int .i64 vk, .int .i64 vv, sv, .int .i64 c, sb, se] 92)).alloc (.cells #[.int .i64 k2, .int .i64 t2, .int .i64 ik2, .int .i64 iv2, ui, .int .i64 vk2, .int .i64 vv2, uv, .int .i64 c2, ub, ue] 92)).heap.size := by simp
  generalize ((w.alloc (.cells #[.int .i64 k, .int .i64 t, .int .i64 ik, .int .i64 iv, si, .int .i64 vk, .int .i64 vv, sv, .int .i64 c, sb, se] 92)).alloc (.cells #[.int .i64 k2, .int .i64 t2, .int .i64 ik2, .int .i64 iv2, ui, .int .i64 vk2, .int .i64 vv2, uv, .int .i64 c2, ub, ue] 92)) = w0 at *
  refine (EqE.eqExpr _ lo hi lo' hi' _ _ _ _ _ _ _ _ (ri.new h1 N0) (di.new h2 N0) (by omega) (by omega)).mono ?_
  rintro e w1 ⟨rfl, hn1⟩
  have z1 := hn1.size
  have N1 : New w w1 := N0.trans hn1
  have bA_1 := heap_new hn1 bA_0
  have bB_1 := heap_new hn1 bB_0
  clear bA_0 bB_0 hn1
  obtain ⟨b0, e1⟩ : ∃ b, Ex.same (.node ik iv li) (.node ik2 iv2 mi) = b := ⟨_, rfl⟩
  rw [e1]
  have E0 := Lib.hid e1
  clear e1
  have bA_1_c5 := cell_of_heap bA_1 5
  have bA_1_c6 := cell_of_heap bA_1 6
  have bA_1_c7 := cell_of_heap bA_1 7
  have bB_1_c5 := cell_of_heap bB_1 5
  have bB_1_c6 := cell_of_heap bB_1 6
  have bB_1_c7 := cell_of_heap bB_1 7
  cases b0
  · clear HH
    go_wp2
    go_ret
    exact ⟨retB (by simp [E0.out]), N1⟩
  go_wp2_with fail
  refine (EqE.eqExpr _ lo hi lo' hi' _ _ _ _ _ _ _ _ (rv.new h1 N1) (dv.new h2 N1) (by omega) (by omega)).mono ?_
  rintro e w2 ⟨rfl, hn2⟩
  have z2 := hn2.size
  have N2 : New w w2 := N1.trans hn2
  have bA_2 := heap_new hn2 bA_1
  have bB_2 := heap_new hn2 bB_1
  clear bA_1_c5 bA_1_c6 bA_1_c7 bB_1_c5 bB_1_c6 bB_1_c7
  clear bA_1 bB_1 hn2
  obtain ⟨b1, e2⟩ : ∃ b, Ex.same (.node vk vv lv) (.node vk2 vv2 mv) = b := ⟨_, rfl⟩
  rw [e2]
  have E1 := Lib.hid e2
  clear e2
  have bA_2_c8 := cell_of_heap bA_2 8
  have bA_2_c9 := cell_of_heap bA_2 9
  have bB_2_c8 := cell_of_heap bB_2 8
  have bB_2_c9 := cell_of_heap bB_2 9
  cases b1
  · clear HH
    go_wp2
    go_ret
    exact ⟨retB (by simp [E0.out, E1.out]), N2⟩
  cases hc : (c == c2)
  · have hc2 : (c != c2) = true := by rw [bne, hc]; rfl
    clear HH
    go_wp2
    go_ret
    exact ⟨retB (by rw [hc]; simp [E0.out, E1.out]), N2⟩
  have hc2 : (c != c2) = false := by rw [bne, hc]; rfl
  go_wp2_with fail
  refine (HH.out _ lo hi lo' hi' _ _ _ _ q1 (rb.new h1 N2) (db.new h2 N2) (by omega) (by omega)).mono ?_
  rintro e w3 ⟨rfl, hn3⟩
  have z3 := hn3.size
  have N3 : New w w3 := N2.trans hn3
  have bA_3 := heap_new hn3 bA_2
  have bB_3 := heap_new hn3 bB_2
  clear bA_2_c8 bA_2_c9 bB_2_c8 bB_2_c9
  clear bA_2 bB_2 hn3
  obtain ⟨b2, e4⟩ : ∃ b, St.sames lb mb = b := ⟨_, rfl⟩
  rw [e4]
  have E2 := Lib.hid e4
  clear e4
  have bA_3_c10 := cell_of_heap bA_3 10
  have bB_3_c10 := cell_of_heap bB_3 10
  cases b2
  · clear HH
    go_wp2
    go_ret
    exact ⟨retB (by rw [hc]; simp [E0.out, E1.out, E2.out]), N3⟩
  go_wp2_with fail
  refine (HH.out _ lo hi lo' hi' _ _ _ _ q2 (re.new h1 N3) (de.new h2 N3) (by omega) (by omega)).mono ?_
  rintro e w4 ⟨rfl, hn4⟩
  have z4 := hn4.size
  have N4 : New w w4 := N3.trans hn4
  have bA_4 := heap_new hn4 bA_3
  have bB_4 := heap_new hn4 bB_3
  clear bA_3_c10 bB_3_c10
  clear bA_3 bB_3 hn4
  obtain ⟨b3, e5⟩ : ∃ b, St.sames le me = b := ⟨_, rfl⟩
  rw [e5]
  have E3 := Lib.hid e5
  clear e5
  cases b3
  · clear HH
    go_wp2
    go_ret
    exact ⟨retB (by rw [hc]; simp [E0.out, E1.out, E2.out, E3.out]), N4⟩
  clear HH
  go_wp2
  go_ret
  exact ⟨retB (by rw [hc]; simp [E0.out, E1.out, E2.out, E3.out]), N4⟩
set_option maxHeartbeats 2000000 in
theorem eqStmtS_step (n : Nat) (H : Does n) (w : World) (lo hi lo' hi' : Nat) (s t : Value) (l m : List St) (hl : St.sizes l ≤ n) (hs : StsR w lo hi s l) (ht : StsR w lo' hi' t m) (h1 : hi ≤ w.heap.size) (h2 : hi' ≤ w.heap.size) :
    Calls Tryd.prog 37 #[s, t] w fun e w' => e = .returned (.bool (St.sames l m)) ∧ New w w' := by
  obtain ⟨a, c, rfl, hl1⟩ := hs.len
  obtain ⟨a', c', rfl, hl2⟩ := ht.len
  have HH := Lib.hid H; clear H
  by_cases hlen : l.length = m.length
  · have hL := Lib.hid hlen
    have hle : m.length ≤ l.length := by omega
    have hge : l.length ≤ m.length := by omega
    have hq3 : ((l.length : Int) != (m.length : Int)) = false := by simp [hlen]
    clear hlen
    go_enter Tryd.func37, Tryd.ntmps37
    go_wp2_with fail
    go_loopw [5] (fun i wr => ∃ j : Nat, j ≤ l.length ∧ i = .int .i64 j ∧ New w wr ∧ Hid (St.sames l m = St.sames (l.drop j) (m.drop j))) (fun i _ => l.length - (intOf i).toNat)
    case atStart => exact ⟨0, Nat.zero_le _, rfl, Kp.refl _ _, Lib.hid rfl⟩
    case round =>
      obtain ⟨j, hj, rfl, hN, hD⟩ := hrel
      by_cases hlt : j < l.length
      · obtain ⟨b, o, vi, vv, vb, ve, rfl, A⟩ := hs.elem j hlt
        obtain ⟨b', o', vi', vv', vb', ve', rfl, A'⟩ := ht.elem j (by omega)
        have hb2 := A.hhi
        have hb2' := A'.hhi
        have g0 := (hN.cell (b := b) (by omega) (fun f => f) (o + j * 11)).trans A.c0
        have g1 := (hN.cell (b := b) (by omega) (fun f => f) (o + j * 11 + 1)).trans A.c1
        have g2 := (hN.cell (b := b) (by omega) (fun f => f) (o + j * 11 + 2)).trans A.c2
        have g3 := (hN.cell (b := b) (by omega) (fun f => f) (o + j * 11 + 3)).trans A.c3
        have g4 := (hN.cell (b := b) (by omega) (fun f => f) (o + j * 11 + 4)).trans A.c4
        have g5 := (hN.cell (b := b) (by omega) (fun f => f) (o + j * 11 + 5)).trans A.c5
        have g6 := (hN.cell (b := b) (by omega) (fun f => f) (o + j * 11 + 6)).trans A.c6
        have g7 := (hN.cell (b := b) (by omega) (fun f => f) (o + j * 11 + 7)).trans A.c7
        have g8 := (hN.cell (b := b) (by omega) (fun f => f) (o + j * 11 + 8)).trans A.c8
        have g9 := (hN.cell (b := b) (by omega) (fun f => f) (o + j * 11 + 9)).trans A.c9
        have g10 := (hN.cell (b := b) (by omega) (fun f => f) (o + j * 11 + 10)).trans A.c10
        have g0' := (hN.cell (b := b') (by omega) (fun f => f) (o' + j * 11)).trans A'.c0
        have g1' := (hN.cell (b := b') (by omega) (fun f => f) (o' + j * 11 + 1)).trans A'.c1
        have g2' := (hN.cell (b := b') (by omega) (fun f => f) (o' + j * 11 + 2)).trans A'.c2
        have g3' := (hN.cell (b := b') (by omega) (fun f => f) (o' + j * 11 + 3)).trans A'.c3
        have g4' := (hN.cell (b := b') (by omega) (fun f => f) (o' + j * 11 + 4)).trans A'.c4
        have g5' := (hN.cell (b := b') (by omega) (fun f => f) (o' + j * 11 + 5)).trans A'.c5
        have g6' := (hN.cell (b := b') (by omega) (fun f => f) (o' + j * 11 + 6)).trans A'.c6
        have g7' := (hN.cell (b := b') (by omega) (fun f => f) (o' + j * 11 + 7)).trans A'.c7
        have g8' := (hN.cell (b := b') (by omega) (fun f => f) (o' + j * 11 + 8)).trans A'.c8
        have g9' := (hN.cell (b := b') (by omega) (fun f => f) (o' + j * 11 + 9)).trans A'.c9
        have g10' := (hN.cell (b := b') (by omega) (fun f => f) (o' + j * 11 + 10)).trans A'.c10
        have hlt2 : j < m.length := by omega
        have k1 := A.ri.new h1 hN.drew
        have k2 := A.rv.new h1 hN.drew
        have k3 := A.rb.new h1 hN.drew
        have k4 := A.re.new h1 hN.drew
        have k1' := A'.ri.new h2 hN.drew
        have k2' := A'.rv.new h2 hN.drew
        have k3' := A'.rb.new h2 hN.drew
        have k4' := A'.re.new h2 hN.drew
        have z1 : hi ≤ wr.drew.heap.size := by have := hN.size; simp; omega
        have z2 : hi' ≤ wr.drew.heap.size := by have := hN.size; simp; omega
        have hp := St.parts_get l j hlt
        have y1 : St.sizes l[j].body < n := by omega
        have y2 : St.sizes l[j].els < n := by omega
        have hD2 := Lib.hid (hD.out.trans (St.sames_drop l m j hlt hlt2))
        have hE := Lib.hid (St.same_eq l[j] m[j])
        clear hD hs ht A A' hp
        generalize l[j] = e at *
        generalize m[j] = f at *
        go_wp2_with fail
        set_option maxRecDepth 100000 in go_still_tail 8, (by kernel_rfl)
        change wpList _ _ _ _ _ wr.drew
        go_wp2_with fail
        refine (eqStmt_step n HH.out _ lo hi lo' hi' _ _ _ _ _ _ _ _ _ _ _ _ _ _ _ _ _ _ _ _ _ _ _ _ _ _ _ _ _ _ y1 y2 k1 k2 k3 k4 k1' k2' k3' k4' z1 z2).mono ?_
        rintro r w1 ⟨rfl, hn⟩
        have hN1 : New w w1 := hN.drew.trans hn
        have hE2 := Lib.hid (show (e.kind == f.kind && e.target == f.target && Ex.same (.node e.index.kind e.index.val e.index.kids) (.node f.index.kind f.index.val f.index.kids) && Ex.same (.node e.value.kind e.value.val e.value.kids) (.node f.value.kind f.value.val f.value.kids) && e.count == f.count && St.sames e.body f.body && St.sames e.els f.els) = St.same e f by rw [hE.out, Ex.eta' e.index, Ex.eta' f.index, Ex.eta' e.value, Ex.eta' f.value])
        rw [hE2.out]
        cases hb : St.same e f
        · go_wp2
          go_ret
          exact ⟨retB (by rw [hD2.out, hb]; rfl), hN1⟩
        · go_wp2
          go_roundw
          case rel => exact ⟨j + 1, by omega, by go_num, hN1, Lib.hid (by rw [hD2.out, hb]; rfl)⟩
          case measure => simp [intOf]; omega
      · have hjj : j = l.length := by omega
        have hfin := Lib.hid (show St.sames l m = true by rw [hD.out, List.drop_of_length_le (by omega), List.drop_of_length_le (by have := hL.out; omega)]; exact St.sames_nil)
        have hge2 : l.length ≤ j := by omega
        clear hjj hD
        go_wp2
        go_ret
        exact ⟨retB hfin.out.symm, hN⟩
  · have hq : ((l.length : Int) != (m.length : Int)) = true := by simp; omega
    have hfin := Lib.hid (show St.sames l m = false by
      cases hb : St.sames l m
      · rfl
      · exact absurd (St.sames_length _ _ hb) hlen)
    clear hlen
    go_enter Tryd.func37, Tryd.ntmps37
    go_wp2
    go_ret
    exact ⟨retB hfin.out.symm, Kp.refl _ _⟩
theorem does : ∀ n, Does n
  | 0 => fun w lo hi lo' hi' s t l m hl hs ht h1 h2 => absurd hl (Nat.not_lt_zero _)
  | n + 1 => fun w lo hi lo' hi' s t l m hl hs ht h1 h2 => eqStmtS_step n (does n) w lo hi lo' hi' s t l m (Nat.le_of_lt_succ hl) hs ht h1 h2
theorem eqStmtS (w : World) (lo hi lo' hi' : Nat) (s t : Value) (l m : List St) (hs : StsR w lo hi s l) (ht : StsR w lo' hi' t m) (h1 : hi ≤ w.heap.size) (h2 : hi' ≤ w.heap.size) :
    Calls Tryd.prog 37 #[s, t] w fun e w' => e = .returned (.bool (St.sames l m)) ∧ New w w' :=
  does _ w lo hi lo' hi' s t l m (Nat.lt_succ_self _) hs ht h1 h2
end Go.Proofs.YtckikiaockkmbaaDoor.EqS
