/- Labels of expressions: l4Label of spec, label of impl, ExprLabel of both. Condition: at most 2^20 nodes. -/
import Derived.Test.YtckikiaockkmbaaTP2
import Derived.Test.YtckikiaockkmbaaTExprV
import Derived.StillTailTactics
import Derived.Test.YtckikiaockkmbaaTP1
namespace Go.Proofs.Ytckikiaockkmbaa.Val
open Go.RowKit Kit
set_option linter.unusedVariables false
def lab0 (xa xb : List Int) (k v : Int) : Int := if k = 2 then xa.getD v.toNat 0 else if k = 3 then xb.getD v.toNat 0 else 0
mutual
/-- the label of an expression: the join of the labels of what it reads, in the order of the text -/
def lab (xa xb : List Int) : Ex → Int
  | .node k v ks => labs xa xb (lab0 xa xb k v) ks
def labs (xa xb : List Int) : Int → List Ex → Int
  | acc, [] => acc
  | acc, e :: es => labs xa xb (bits .or .i64 acc (lab xa xb e)) es
end
theorem labs_drop (xa xb : List Int) (acc : Int) {l : List Ex} {j : Nat} (h : j < l.length) : labs xa xb acc (l.drop j) = labs xa xb (bits .or .i64 acc (lab xa xb l[j])) (l.drop (j + 1)) := by
  rw [List.drop_eq_getElem_cons h, labs]
theorem shps_get (nv na d : Nat) {l : List Ex} (h : shps nv na l d = true) (j : Nat) (hj : j < l.length) : shp nv na l[j] d = true := by
  cases hb : shp nv na l[j] d
  · rw [shps_bad nv na l d j hj hb] at h; cases h
  · rfl
def exprL (xa xb : List Int) (e : Ex) : Int := if exprB xa xb e then lab xa xb e else 3
end Go.Proofs.Ytckikiaockkmbaa.Val
namespace Go.Proofs.Ytckikiaockkmbaa.LabE
open Go.RowKit Kit Val
set_option linter.unusedVariables false
namespace Impl
def Does (n : Nat) : Prop := ∀ (w : World) (lo hi lo' hi' : Nat) (ta tb tc : Value) (xa xb : List Int) (k v : Int) (s : Value) (l : List Ex) (d : Nat), Ex.sizes l < n → IntsR w lo hi ta xa → IntsR w lo hi tb xb → KidsR w lo' hi' s l → hi ≤ w.heap.size → hi' ≤ w.heap.size → shp xa.length xb.length (.node k v l) d = true →
  Calls Try.prog 107 #[.agg #[ta, tb, tc], .agg #[.int .i64 k, .int .i64 v, s]] w fun e w' => e = .returned (.int .i64 (lab xa xb (.node k v l))) ∧ New w w'
set_option maxHeartbeats 4000000 in
set_option maxRecDepth 100000 in
theorem label_step (n : Nat) (H : Does n) (w : World) (lo hi lo' hi' : Nat) (ta tb tc : Value) (xa xb : List Int) (k v : Int) (s : Value) (l : List Ex) (d : Nat) (hl : Ex.sizes l ≤ n) (sa : IntsR w lo hi ta xa) (sb : IntsR w lo hi tb xb) (hs : KidsR w lo' hi' s l) (h1 : hi ≤ w.heap.size) (h2 : hi' ≤ w.heap.size) (hv : shp xa.length xb.length (.node k v l) d = true) :
    Calls Try.prog 107 #[.agg #[ta, tb, tc], .agg #[.int .i64 k, .int .i64 v, s]] w fun e w' => e = .returned (.int .i64 (lab xa xb (.node k v l))) ∧ New w w' := by
  obtain ⟨a, c, rfl, m1⟩ := sa.len
  obtain ⟨a', c', rfl, m2⟩ := sb.len
  obtain ⟨a2, q2, rfl, hl1⟩ := hs.len
  have HH := Lib.hid H; clear H
  have hv0 := hv
  simp only [shp, Bool.and_eq_true, decide_eq_true_eq] at hv0
  obtain ⟨⟨⟨⟨⟨hd1, har⟩, hv1⟩, hv2⟩, hks⟩, _⟩ := hv0
  have HK := Lib.hid hks
  have U := Lib.hid (show lab xa xb (.node k v l) = labs xa xb (lab0 xa xb k v) l by rw [lab])
  clear hv hks har
  have SA := Lib.hid sa
  have SB := Lib.hid sb
  clear sa sb
  by_cases k2 : k = 2
  · subst k2
    obtain ⟨v, rfl⟩ := Int.eq_ofNat_of_zero_le hv1
    have hvl : v < xa.length := by simp [limit] at hv2; exact hv2
    obtain ⟨b0, o0, e0, hb01, hb02, cz0⟩ := IntsR.at SA.out v hvl
    cases e0
    have LZ := Lib.hid (show lab0 xa xb 2 (v : Int) = xa[v] by simp [lab0, List.getD_eq_getElem?_getD, List.getElem?_eq_getElem hvl])
    generalize xa[v] = y0 at *
    clear hv2
    have hb0s : b0 < w.heap.size := by omega
    go_enter Try.func107, Try.ntmps107
    go_wp2_with fail
    have N0 : New w ((w.alloc (.cells #[.slice (some ⟨b0, o0, none⟩) xa.length c, .slice a' xb.length c', tc] 37)).alloc (.cells #[.int .i64 2, .int .i64 (v : Int), .slice a2 l.length q2] 58)) := (((Kp.refl _ _).alloc _).alloc _)
    have bA_0 : ((w.alloc (.cells #[.slice (some ⟨b0, o0, none⟩) xa.length c, .slice a' xb.length c', tc] 37)).alloc (.cells #[.int .i64 2, .int .i64 (v : Int), .slice a2 l.length q2] 58)).heap[w.heap.size]? = some (.cells #[.slice (some ⟨b0, o0, none⟩) xa.length c, .slice a' xb.length c', tc] 37) := heap_old (alloc_heap _ _)
    have bB_0 : ((w.alloc (.cells #[.slice (some ⟨b0, o0, none⟩) xa.length c, .slice a' xb.length c', tc] 37)).alloc (.cells #[.int .i64 2, .int .i64 (v : Int), .slice a2 l.length q2] 58)).heap[w.heap.size + 1]? = some (.cells #[.int .i64 2, .int .i64 (v : Int), .slice a2 l.length q2] 58) := heap_at (by simp)
    have z0 : w.heap.size + 1 < ((w.alloc (.cells #[.slice (some ⟨b0, o0, none⟩) xa.length c, .slice a' xb.length c', tc] 37)).alloc (.cells #[.int .i64 2, .int .i64 (v : Int), .slice a2 l.length q2] 58)).heap.size := by simp
    generalize ((w.alloc (.cells #[.slice (some ⟨b0, o0, none⟩) xa.length c, .slice a' xb.length c', tc] 37)).alloc (.cells #[.int .i64 2, .int .i64 (v : Int), .slice a2 l.length q2] 58)) = w0 at *
    obtain ⟨bA_0_c0, bA_0_c1, bA_0_c2⟩ := cells3 bA_0
    obtain ⟨bB_0_c0, bB_0_c1, bB_0_c2⟩ := cells3 bB_0
    go_wp2_with fail
    go_loopw [5, 29] (fun q i wr => ∃ (j : Nat) (y : Int), j ≤ l.length ∧ i = .int .i64 j ∧ q = .int .i64 y ∧ New w0 wr ∧ Hid (lab xa xb (.node 2 (v : Int) l) = labs xa xb y (l.drop j))) (fun _ i _ => l.length - (intOf i).toNat)
    case atStart => exact ⟨0, _, Nat.zero_le _, rfl, rfl, Kp.refl _ _, Lib.hid (by rw [U.out, LZ.out]; rfl)⟩
    case round =>
      obtain ⟨j, y, hj, rfl, rfl, hNA, hG⟩ := hrel
      have N3 := N0.trans hNA
      have hz3 := hNA.size
      have bA3 := heap_new hNA bA_0
      have bB3 := heap_new hNA bB_0
      obtain ⟨cA0, cA1, cA2⟩ := cells3 bA3
      obtain ⟨cB0, cB1, cB2⟩ := cells3 bB3
      by_cases hlt : j < l.length
      · obtain ⟨b, o, s, e, hb1, hb2, c0, c1, c2, hs1⟩ := (hs.new h2 N3).at j hlt
        cases e
        have hsz : Ex.sizes l[j].kids < n := by have := Ex.kids_get l j hlt; omega
        have hE0 : Ex.node l[j].kind l[j].val l[j].kids = l[j] := by cases l[j]; rfl
        have hvk := Lib.hid (show shp xa.length xb.length (Ex.node l[j].kind l[j].val l[j].kids) (d - 1) = true by rw [hE0]; exact shps_get _ _ _ HK.out j hlt)
        have hE := Lib.hid hE0
        have hT := Lib.hid (labs_drop xa xb y hlt)
        clear hE0
        have hz : hi' ≤ (wr.alloc (.cells #[.int .i64 l[j].kind, .int .i64 l[j].val, s] 58)).heap.size := by simp; omega
        have hzz : hi ≤ (wr.alloc (.cells #[.int .i64 l[j].kind, .int .i64 l[j].val, s] 58)).heap.size := by simp; omega
        have k1 := hs1.new (by omega) ((Kp.refl (fun _ => False) wr).alloc (.cells #[.int .i64 l[j].kind, .int .i64 l[j].val, s] 58))
        have sA3 := Lib.hid (SA.out.new h1 (N3.alloc (.cells #[.int .i64 l[j].kind, .int .i64 l[j].val, s] 58)))
        have sB3 := Lib.hid (SB.out.new h1 (N3.alloc (.cells #[.int .i64 l[j].kind, .int .i64 l[j].val, s] 58)))
        obtain ⟨sa, sc, rfl, _⟩ := k1.len
        have hbl : b < wr.heap.size := by omega
        have zA : w.heap.size < wr.heap.size := by omega
        have zB : w.heap.size + 1 < wr.heap.size := by omega
        clear hs hs1
        generalize l[j] = x at *
        go_wp2_with fail
        refine (HH.out _ lo hi lo' hi' _ _ _ _ _ _ _ _ _ (d - 1) hsz sA3.out sB3.out k1 hzz hz hvk.out).mono ?_
        rintro r w3 ⟨rfl, hn3⟩
        have hNA2 := (hNA.alloc _).trans hn3
        rw [hE.out]
        have hG2 := Lib.hid (show lab xa xb (.node 2 (v : Int) l) = labs xa xb (bits .or .i64 y (lab xa xb x)) (l.drop (j + 1)) by rw [hG.out, hT.out])
        clear hT hG hvk hE sA3 sB3
        generalize lab xa xb x = z at *
        go_wp2
        go_roundw
        case rel => exact ⟨j + 1, _, by omega, by go_num, rfl, hNA2, hG2⟩
        case measure => simp [intOf]; omega
      · have D := Lib.hid (show y = lab xa xb (.node 2 (v : Int) l) by rw [hG.out, List.drop_of_length_le (by omega), labs])
        have hge : l.length ≤ j := by omega
        clear hG HH hs
        go_wp2
        go_ret
        exact ⟨retI D.out, N3⟩
  by_cases k3 : k = 3
  · subst k3
    clear k2
    obtain ⟨v, rfl⟩ := Int.eq_ofNat_of_zero_le hv1
    have hvl : v < xb.length := by simp [limit] at hv2; exact hv2
    obtain ⟨b0, o0, e0, hb01, hb02, cz0⟩ := IntsR.at SB.out v hvl
    cases e0
    have LZ := Lib.hid (show lab0 xa xb 3 (v : Int) = xb[v] by simp [lab0, List.getD_eq_getElem?_getD, List.getElem?_eq_getElem hvl])
    generalize xb[v] = y0 at *
    clear hv2
    have hb0s : b0 < w.heap.size := by omega
    go_enter Try.func107, Try.ntmps107
    go_wp2_with fail
    have N0 : New w ((w.alloc (.cells #[.slice a xa.length c, .slice (some ⟨b0, o0, none⟩) xb.length c', tc] 37)).alloc (.cells #[.int .i64 3, .int .i64 (v : Int), .slice a2 l.length q2] 58)) := (((Kp.refl _ _).alloc _).alloc _)
    have bA_0 : ((w.alloc (.cells #[.slice a xa.length c, .slice (some ⟨b0, o0, none⟩) xb.length c', tc] 37)).alloc (.cells #[.int .i64 3, .int .i64 (v : Int), .slice a2 l.length q2] 58)).heap[w.heap.size]? = some (.cells #[.slice a xa.length c, .slice (some ⟨b0, o0, none⟩) xb.length c', tc] 37) := heap_old (alloc_heap _ _)
    have bB_0 : ((w.alloc (.cells #[.slice a xa.length c, .slice (some ⟨b0, o0, none⟩) xb.length c', tc] 37)).alloc (.cells #[.int .i64 3, .int .i64 (v : Int), .slice a2 l.length q2] 58)).heap[w.heap.size + 1]? = some (.cells #[.int .i64 3, .int .i64 (v : Int), .slice a2 l.length q2] 58) := heap_at (by simp)
    have z0 : w.heap.size + 1 < ((w.alloc (.cells #[.slice a xa.length c, .slice (some ⟨b0, o0, none⟩) xb.length c', tc] 37)).alloc (.cells #[.int .i64 3, .int .i64 (v : Int), .slice a2 l.length q2] 58)).heap.size := by simp
    generalize ((w.alloc (.cells #[.slice a xa.length c, .slice (some ⟨b0, o0, none⟩) xb.length c', tc] 37)).alloc (.cells #[.int .i64 3, .int .i64 (v : Int), .slice a2 l.length q2] 58)) = w0 at *
    obtain ⟨bA_0_c0, bA_0_c1, bA_0_c2⟩ := cells3 bA_0
    obtain ⟨bB_0_c0, bB_0_c1, bB_0_c2⟩ := cells3 bB_0
    go_wp2_with fail
    go_loopw [5, 29] (fun q i wr => ∃ (j : Nat) (y : Int), j ≤ l.length ∧ i = .int .i64 j ∧ q = .int .i64 y ∧ New w0 wr ∧ Hid (lab xa xb (.node 3 (v : Int) l) = labs xa xb y (l.drop j))) (fun _ i _ => l.length - (intOf i).toNat)
    case atStart => exact ⟨0, _, Nat.zero_le _, rfl, rfl, Kp.refl _ _, Lib.hid (by rw [U.out, LZ.out]; rfl)⟩
    case round =>
      obtain ⟨j, y, hj, rfl, rfl, hNA, hG⟩ := hrel
      have N3 := N0.trans hNA
      have hz3 := hNA.size
      have bA3 := heap_new hNA bA_0
      have bB3 := heap_new hNA bB_0
      obtain ⟨cA0, cA1, cA2⟩ := cells3 bA3
      obtain ⟨cB0, cB1, cB2⟩ := cells3 bB3
      by_cases hlt : j < l.length
      · obtain ⟨b, o, s, e, hb1, hb2, c0, c1, c2, hs1⟩ := (hs.new h2 N3).at j hlt
        cases e
        have hsz : Ex.sizes l[j].kids < n := by have := Ex.kids_get l j hlt; omega
        have hE0 : Ex.node l[j].kind l[j].val l[j].kids = l[j] := by cases l[j]; rfl
        have hvk := Lib.hid (show shp xa.length xb.length (Ex.node l[j].kind l[j].val l[j].kids) (d - 1) = true by rw [hE0]; exact shps_get _ _ _ HK.out j hlt)
        have hE := Lib.hid hE0
        have hT := Lib.hid (labs_drop xa xb y hlt)
        clear hE0
        have hz : hi' ≤ (wr.alloc (.cells #[.int .i64 l[j].kind, .int .i64 l[j].val, s] 58)).heap.size := by simp; omega
        have hzz : hi ≤ (wr.alloc (.cells #[.int .i64 l[j].kind, .int .i64 l[j].val, s] 58)).heap.size := by simp; omega
        have k1 := hs1.new (by omega) ((Kp.refl (fun _ => False) wr).alloc (.cells #[.int .i64 l[j].kind, .int .i64 l[j].val, s] 58))
        have sA3 := Lib.hid (SA.out.new h1 (N3.alloc (.cells #[.int .i64 l[j].kind, .int .i64 l[j].val, s] 58)))
        have sB3 := Lib.hid (SB.out.new h1 (N3.alloc (.cells #[.int .i64 l[j].kind, .int .i64 l[j].val, s] 58)))
        obtain ⟨sa, sc, rfl, _⟩ := k1.len
        have hbl : b < wr.heap.size := by omega
        have zA : w.heap.size < wr.heap.size := by omega
        have zB : w.heap.size + 1 < wr.heap.size := by omega
        clear hs hs1
        generalize l[j] = x at *
        go_wp2_with fail
        refine (HH.out _ lo hi lo' hi' _ _ _ _ _ _ _ _ _ (d - 1) hsz sA3.out sB3.out k1 hzz hz hvk.out).mono ?_
        rintro r w3 ⟨rfl, hn3⟩
        have hNA2 := (hNA.alloc _).trans hn3
        rw [hE.out]
        have hG2 := Lib.hid (show lab xa xb (.node 3 (v : Int) l) = labs xa xb (bits .or .i64 y (lab xa xb x)) (l.drop (j + 1)) by rw [hG.out, hT.out])
        clear hT hG hvk hE sA3 sB3
        generalize lab xa xb x = z at *
        go_wp2
        go_roundw
        case rel => exact ⟨j + 1, _, by omega, by go_num, rfl, hNA2, hG2⟩
        case measure => simp [intOf]; omega
      · have D := Lib.hid (show y = lab xa xb (.node 3 (v : Int) l) by rw [hG.out, List.drop_of_length_le (by omega), labs])
        have hge : l.length ≤ j := by omega
        clear hG HH hs
        go_wp2
        go_ret
        exact ⟨retI D.out, N3⟩
  have e2 : (k == 2) = false := by simp [k2]
  have e3 : (k == 3) = false := by simp [k3]
  have LZ := Lib.hid (show lab0 xa xb k v = 0 by simp [lab0, k2, k3])
  clear k2 k3
  go_enter Try.func107, Try.ntmps107
  go_wp2_with fail
  have N0 : New w ((w.alloc (.cells #[.slice a xa.length c, .slice a' xb.length c', tc] 37)).alloc (.cells #[.int .i64 k, .int .i64 v, .slice a2 l.length q2] 58)) := (((Kp.refl _ _).alloc _).alloc _)
  have bA_0 : ((w.alloc (.cells #[.slice a xa.length c, .slice a' xb.length c', tc] 37)).alloc (.cells #[.int .i64 k, .int .i64 v, .slice a2 l.length q2] 58)).heap[w.heap.size]? = some (.cells #[.slice a xa.length c, .slice a' xb.length c', tc] 37) := heap_old (alloc_heap _ _)
  have bB_0 : ((w.alloc (.cells #[.slice a xa.length c, .slice a' xb.length c', tc] 37)).alloc (.cells #[.int .i64 k, .int .i64 v, .slice a2 l.length q2] 58)).heap[w.heap.size + 1]? = some (.cells #[.int .i64 k, .int .i64 v, .slice a2 l.length q2] 58) := heap_at (by simp)
  have z0 : w.heap.size + 1 < ((w.alloc (.cells #[.slice a xa.length c, .slice a' xb.length c', tc] 37)).alloc (.cells #[.int .i64 k, .int .i64 v, .slice a2 l.length q2] 58)).heap.size := by simp
  generalize ((w.alloc (.cells #[.slice a xa.length c, .slice a' xb.length c', tc] 37)).alloc (.cells #[.int .i64 k, .int .i64 v, .slice a2 l.length q2] 58)) = w0 at *
  obtain ⟨bA_0_c0, bA_0_c1, bA_0_c2⟩ := cells3 bA_0
  obtain ⟨bB_0_c0, bB_0_c1, bB_0_c2⟩ := cells3 bB_0
  go_wp2_with fail
  go_loopw [5, 29] (fun q i wr => ∃ (j : Nat) (y : Int), j ≤ l.length ∧ i = .int .i64 j ∧ q = .int .i64 y ∧ New w0 wr ∧ Hid (lab xa xb (.node k v l) = labs xa xb y (l.drop j))) (fun _ i _ => l.length - (intOf i).toNat)
  case atStart => exact ⟨0, _, Nat.zero_le _, rfl, rfl, Kp.refl _ _, Lib.hid (by rw [U.out, LZ.out]; rfl)⟩
  case round =>
    obtain ⟨j, y, hj, rfl, rfl, hNA, hG⟩ := hrel
    have N3 := N0.trans hNA
    have hz3 := hNA.size
    have bA3 := heap_new hNA bA_0
    have bB3 := heap_new hNA bB_0
    obtain ⟨cA0, cA1, cA2⟩ := cells3 bA3
    obtain ⟨cB0, cB1, cB2⟩ := cells3 bB3
    by_cases hlt : j < l.length
    · obtain ⟨b, o, s, e, hb1, hb2, c0, c1, c2, hs1⟩ := (hs.new h2 N3).at j hlt
      cases e
      have hsz : Ex.sizes l[j].kids < n := by have := Ex.kids_get l j hlt; omega
      have hE0 : Ex.node l[j].kind l[j].val l[j].kids = l[j] := by cases l[j]; rfl
      have hvk := Lib.hid (show shp xa.length xb.length (Ex.node l[j].kind l[j].val l[j].kids) (d - 1) = true by rw [hE0]; exact shps_get _ _ _ HK.out j hlt)
      have hE := Lib.hid hE0
      have hT := Lib.hid (labs_drop xa xb y hlt)
      clear hE0
      have hz : hi' ≤ (wr.alloc (.cells #[.int .i64 l[j].kind, .int .i64 l[j].val, s] 58)).heap.size := by simp; omega
      have hzz : hi ≤ (wr.alloc (.cells #[.int .i64 l[j].kind, .int .i64 l[j].val, s] 58)).heap.size := by simp; omega
      have k1 := hs1.new (by omega) ((Kp.refl (fun _ => False) wr).alloc (.cells #[.int .i64 l[j].kind, .int .i64 l[j].val, s] 58))
      have sA3 := Lib.hid (SA.out.new h1 (N3.alloc (.cells #[.int .i64 l[j].kind, .int .i64 l[j].val, s] 58)))
      have sB3 := Lib.hid (SB.out.new h1 (N3.alloc (.cells #[.int .i64 l[j].kind, .int .i64 l[j].val, s] 58)))
      obtain ⟨sa, sc, rfl, _⟩ := k1.len
      have hbl : b < wr.heap.size := by omega
      have zA : w.heap.size < wr.heap.size := by omega
      have zB : w.heap.size + 1 < wr.heap.size := by omega
      clear hs hs1
      generalize l[j] = x at *
      go_wp2_with fail
      refine (HH.out _ lo hi lo' hi' _ _ _ _ _ _ _ _ _ (d - 1) hsz sA3.out sB3.out k1 hzz hz hvk.out).mono ?_
      rintro r w3 ⟨rfl, hn3⟩
      have hNA2 := (hNA.alloc _).trans hn3
      rw [hE.out]
      have hG2 := Lib.hid (show lab xa xb (.node k v l) = labs xa xb (bits .or .i64 y (lab xa xb x)) (l.drop (j + 1)) by rw [hG.out, hT.out])
      clear hT hG hvk hE sA3 sB3
      generalize lab xa xb x = z at *
      go_wp2
      go_roundw
      case rel => exact ⟨j + 1, _, by omega, by go_num, rfl, hNA2, hG2⟩
      case measure => simp [intOf]; omega
    · have D := Lib.hid (show y = lab xa xb (.node k v l) by rw [hG.out, List.drop_of_length_le (by omega), labs])
      have hge : l.length ≤ j := by omega
      clear hG HH hs
      go_wp2
      go_ret
      exact ⟨retI D.out, N3⟩
theorem does : ∀ n, Does n
  | 0 => fun w lo hi lo' hi' ta tb tc xa xb k v s l d hl => absurd hl (Nat.not_lt_zero _)
  | n + 1 => fun w lo hi lo' hi' ta tb tc xa xb k v s l d hl sa sb hs h1 h2 hv => label_step n (does n) w lo hi lo' hi' ta tb tc xa xb k v s l d (Nat.le_of_lt_succ hl) sa sb hs h1 h2 hv
theorem label {w : World} {lo hi lo' hi' : Nat} {ta tb tc : Value} {xa xb : List Int} {k v : Int} {s : Value} {l : List Ex} (sa : IntsR w lo hi ta xa) (sb : IntsR w lo hi tb xb) (hs : KidsR w lo' hi' s l) (h1 : hi ≤ w.heap.size) (h2 : hi' ≤ w.heap.size) (hr : right xa.length xb.length (.node k v l) = true) :
    Calls Try.prog 107 #[.agg #[ta, tb, tc], .agg #[.int .i64 k, .int .i64 v, s]] w fun e w' => e = .returned (.int .i64 (lab xa xb (.node k v l))) ∧ New w w' :=
  does _ w lo hi lo' hi' ta tb tc xa xb k v s l 5 (Nat.lt_succ_self _) sa sb hs h1 h2 (by unfold right at hr; exact (Bool.and_eq_true _ _ ▸ hr).1)
end Impl
end Go.Proofs.Ytckikiaockkmbaa.LabE
