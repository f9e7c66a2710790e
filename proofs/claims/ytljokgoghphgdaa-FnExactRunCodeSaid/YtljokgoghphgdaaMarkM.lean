/- mark and held of the laws, on matrices of the call's own. Condition: at most 2^20 elements and rows. -/
import Derived.Test.YtljokgoghphgdaaMatO
import Derived.Test.YtljokgoghphgdaaMark
import Derived.WalkKit
import Derived.ProofKit
namespace Go.Proofs.Ytljokgoghphgdaa
open Go.RowKit Kit
set_option linter.unusedVariables false
def tot : List (List Int) → Nat | [] => 0 | x :: l => x.length + tot l
/-- the first j rows marked, from k on -/
def mkTo : Int → List (List Int) → Nat → List (List Int)
  | _, [], _ => []
  | _, x :: l, 0 => x :: l
  | k, x :: l, j + 1 => marksI k x.length :: mkTo (k + (x.length : Int)) l j
def marksM (k : Int) (l : List (List Int)) : List (List Int) := mkTo k l l.length
theorem mkTo_zero (k : Int) : ∀ l, mkTo k l 0 = l | [] => rfl | _ :: _ => rfl
theorem mkTo_length : ∀ (l : List (List Int)) (k : Int) (j : Nat), (mkTo k l j).length = l.length
  | [], _, _ => rfl
  | _ :: _, _, 0 => rfl
  | x :: l, k, j + 1 => by simp [mkTo, mkTo_length l]
theorem tot_take_succ : ∀ (l : List (List Int)) (j : Nat) (h : j < l.length), tot (l.take (j + 1)) = tot (l.take j) + l[j].length
  | x :: l, 0, _ => by simp [tot]
  | x :: l, j + 1, h => by
    have := tot_take_succ l j (by simpa using h)
    rw [List.take_succ_cons, List.take_succ_cons, tot, tot, this, List.getElem_cons_succ]; omega
theorem tot_take_le : ∀ (l : List (List Int)) (j : Nat), tot (l.take j) ≤ tot l
  | [], j => by simp
  | x :: l, 0 => by simp [tot]
  | x :: l, j + 1 => by have := tot_take_le l j; rw [List.take_succ_cons, tot, tot]; omega
theorem tot_msz : ∀ l, tot l ≤ msz l | [] => Nat.le_refl _ | x :: l => by have := tot_msz l; simp [tot, msz]; omega
theorem mkTo_get : ∀ (l : List (List Int)) (k : Int) (j : Nat) (h : j < l.length), (mkTo k l j)[j]'(by rw [mkTo_length]; exact h) = l[j]
  | x :: l, k, 0, _ => rfl
  | x :: l, k, j + 1, h => by simpa [mkTo] using mkTo_get l (k + x.length) j (by simpa using h)
theorem mkTo_set : ∀ (l : List (List Int)) (k : Int) (j : Nat) (h : j < l.length), (mkTo k l j).set j (marksI (k + (tot (l.take j) : Nat)) l[j].length) = mkTo k l (j + 1)
  | x :: l, k, 0, _ => by simp [mkTo, mkTo_zero, tot]
  | x :: l, k, j + 1, h => by
    have := mkTo_set l (k + x.length) j (by simpa using h)
    rw [mkTo, mkTo, List.set_cons_succ, ← this, List.take_succ_cons, tot, List.getElem_cons_succ]
    congr 3
    omega
theorem mkTo_row : ∀ (l : List (List Int)) (k : Int) (m j : Nat) (h : j < l.length), j < m → (mkTo k l m)[j]'(by rw [mkTo_length]; exact h) = marksI (k + (tot (l.take j) : Nat)) l[j].length
  | x :: l, k, m + 1, 0, _, _ => by simp [mkTo, tot]
  | x :: l, k, m + 1, j + 1, h, hm => by
    have := mkTo_row l (k + x.length) m j (by simpa using h) (by omega)
    simp only [mkTo, List.getElem_cons_succ, List.take_succ_cons, tot]
    rw [this]
    congr 1
    omega
theorem MatO.row {w : World} {lo hi : Nat} {TO T : TypeId} {a : Option Addr} {n cap : Nat} {l : List (List Int)} (h : MatO w lo hi TO T (.slice a n cap) l) (j : Nat) (hj : j < l.length) :
    ∃ b s, a = some ⟨b, 0, none⟩ ∧ lo ≤ b ∧ b < hi ∧ w.cell? ⟨b, j, none⟩ = some s ∧ OwnF 1 encI w lo T s l[j] ∧ (∀ c, s.ownBlock = some c → lo ≤ c ∧ c < hi ∧ c ≠ b) ∧
      ∀ w' x, Kp (fun c => s.ownBlock = some c) w w' → OwnF 1 encI w' lo T s x → MatO w' lo hi TO T (.slice a n cap) (l.set j x) := by
  obtain ⟨vs, h1, h2, h3, h4⟩ := h
  have hl := h2.len
  have hj' : j < vs.length := by omega
  have ho := h2.own j hj' hj
  rcases h1.own.form with ⟨e, _⟩ | ⟨b, cap', cs, e, hb, _, _, hh, hn, hc⟩
  · subst e; exact absurd hj' (Nat.not_lt_zero _)
  · cases e
    have hbo : (Value.slice (some ⟨b, 0, none⟩) vs.length cap).ownBlock = some b := by simp [Value.ownBlock]
    have hm : vs[j] ∈ vs := List.getElem_mem hj'
    refine ⟨b, vs[j], rfl, hb, h1.top b hbo, ?_, ho, fun c hc => ⟨(ho.lt c hc).1, h3 _ hm c hc, fun e => h4 _ hm b hbo (by rw [← e]; exact hc)⟩, fun w' x k hx => ?_⟩
    · have := hc j hj' 0 (by omega)
      rw [Nat.mul_one, Nat.add_zero] at this
      exact (Kit.cell_of_heap hh j).trans this
    · refine ⟨vs, ⟨h1.own.kp k fun c hc hs => ?_, h1.top⟩, h2.set hj' k hx, h3, h4⟩
      rw [hbo] at hc; cases hc
      exact h4 _ hm _ hbo hs
namespace MarkM
set_option maxHeartbeats 1000000 in
theorem markIntSS (w : World) (lo hi : Nat) (v : Value) (l : List (List Int)) (k : Int) (hO : MatO w lo hi 23 3 v l) (hk0 : 0 ≤ k) (hk1 : k ≤ 1099510000000) (hm : msz l ≤ 1048576) (hh : hi ≤ w.heap.size) :
    Calls Try.prog 87 #[v, .int .i64 k] w fun e w' => e = .returned (.int .i64 (k + (tot l : Int))) ∧ Kp (fun b => lo ≤ b ∧ b < hi) w w' ∧ MatO w' lo hi 23 3 v (marksM k l) := by
  obtain ⟨a, c, rfl, hl⟩ := hO.reads.len
  have hlen : l.length ≤ 1048576 := by have := msz_len l; omega
  have hT := tot_msz l
  go_enter Try.func87, Try.ntmps87
  go_wp2_with fail
  go_loopw [1, 5] (fun q i wr => ∃ j : Nat, j ≤ l.length ∧ i = .int .i64 j ∧ q = .int .i64 (k + (tot (l.take j) : Int)) ∧ Kp (fun b => lo ≤ b ∧ b < hi) w wr ∧ MatO wr lo hi 23 3 (.slice a l.length c) (mkTo k l j)) (fun _ i _ => l.length - (intOf i).toNat)
  case atStart => exact ⟨0, Nat.zero_le _, rfl, by simp [tot], Kp.refl _ _, by rw [mkTo_zero]; exact hO⟩
  case round =>
    obtain ⟨j, hj, rfl, rfl, hK, hM⟩ := hrel
    clear hO
    by_cases hlt : j < l.length
    · obtain ⟨b, s, rfl, hb1, hb2, c0, ho, hs, hset⟩ := hM.row j (by rw [mkTo_length]; exact hlt)
      rw [mkTo_get l k j hlt] at ho
      have hsz := hK.size
      have htl := tot_take_le l j
      have hg := msz_get l j hlt
      have htk := Lib.hid (tot_take_succ l j hlt)
      have hms := Lib.hid (mkTo_set l k j hlt)
      have hbl : b < wr.heap.size := by omega
      have hset2 := Lib.hid hset
      clear hset
      go_wp2_with fail
      refine (LawF.markIntS _ _ _ _ _ ho (by omega) (by omega) (by omega)).mono ?_
      rintro r w1 ⟨rfl, hk, ho1⟩
      have hM1 := hset2.out w1 _ hk ho1
      rw [hms.out] at hM1
      have hK1 := hK.trans (hk.mono fun c _ e => ⟨(hs c e).1, (hs c e).2.1⟩)
      clear hset2 hms c0 ho hs hM hK hk ho1
      go_wp2
      go_roundw
      case rel => exact ⟨j + 1, by omega, by go_num, by rw [htk.out]; go_num, hK1, hM1⟩
      case measure => simp [intOf]; omega
    · have hge : l.length ≤ j := by omega
      have hj2 : j = l.length := by omega
      have hq := Lib.hid (show (tot (l.take j) : Int) = tot l by rw [List.take_of_length_le (by omega)])
      have hM2 := Lib.hid (show MatO wr lo hi 23 3 (.slice a l.length c) (marksM k l) by rw [show marksM k l = mkTo k l j by rw [hj2]; rfl]; exact hM)
      clear hM hj2
      go_wp2
      go_ret
      exact ⟨retI (by rw [hq.out]), hK, hM2.out⟩
set_option maxHeartbeats 1000000 in
theorem heldIntSS (w : World) (lo hi : Nat) (v : Value) (l : List (List Int)) (k : Int) (hO : MatR w lo hi v (marksM k l)) (hk0 : 0 ≤ k) (hk1 : k ≤ 1099510000000) (hm : msz l ≤ 1048576) (hh : hi ≤ w.heap.size) :
    Calls Try.prog 90 #[v, .int .i64 k] w fun e w' => e = .returned (.int .i64 (k + (tot l : Int))) ∧ w = w' := by
  obtain ⟨a, c, rfl, hl⟩ := hO.len
  have hml : (marksM k l).length = l.length := mkTo_length _ _ _
  rw [hml] at hl
  have hlen : l.length ≤ 1048576 := by have := msz_len l; omega
  have hT := tot_msz l
  rw [hml] at hO ⊢
  go_enter Try.func90, Try.ntmps90
  go_wp2_with fail
  go_loop [1, 5] (fun q i => ∃ j : Nat, j ≤ l.length ∧ i = .int .i64 j ∧ q = .int .i64 (k + (tot (l.take j) : Int))) (fun _ i => l.length - (intOf i).toNat)
  case atStart => exact ⟨0, Nat.zero_le _, rfl, by simp [tot]⟩
  case round =>
    obtain ⟨j, hj, rfl, rfl⟩ := hrel
    by_cases hlt : j < l.length
    · obtain ⟨b, o, s, rfl, hb1, hb2, c0, hs⟩ := hO.at' j (by omega)
      rw [show (marksM k l)[j]'(by omega) = _ from mkTo_row l k l.length j hlt hlt] at hs
      have htl := tot_take_le l j
      have hg := msz_get l j hlt
      have htk := Lib.hid (tot_take_succ l j hlt)
      have hbl : b < w.heap.size := by omega
      have hgg : decide (k + (tot (l.take j) : Int) + (l[j].length : Int) < 0) = false := by rw [decide_eq_false_iff_not]; omega
      have hge0 : ¬ (k + (tot (l.take j) : Int) + (l[j].length : Int) < 0) := by omega
      clear hO
      go_wp2_with fail
      refine (LawF.heldIntS _ _ _ _ _ _ hs (by omega) (by omega) (by omega)).mono ?_
      rintro r w1 ⟨rfl, rfl⟩
      clear c0 hs
      go_wp2
      go_round
      case rel => exact ⟨j + 1, by omega, by go_num, by rw [htk.out]; go_num⟩
      case measure => simp [intOf]; omega
    · have hge : l.length ≤ j := by omega
      have hq := Lib.hid (show (tot (l.take j) : Int) = tot l by rw [List.take_of_length_le (by omega)])
      clear hO
      go_wp2
      go_ret
      exact ⟨retI (by rw [hq.out]), rfl⟩
end MarkM
end Go.Proofs.Ytljokgoghphgdaa
