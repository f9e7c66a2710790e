/- szExpr, szExprS of laws: what is left of 'left' behind all nodes. Condition: left at most 2^20. -/
import Derived.Test.YtckikiaockkmbaaTree
import Derived.Test.YtckikiaockkmbaaFlat
import Derived.Test.YtckikiaockkmbaaChecked
import Derived.WalkKit
import Derived.ProofKit
namespace Go.Proofs.Ytckikiaockkmbaa
open Go.RowKit Kit
set_option linter.unusedVariables false
theorem Ex.sizes_take_drop : ∀ (l : List Ex) (j : Nat), Ex.sizes l = Ex.sizes (l.take j) + Ex.sizes (l.drop j)
  | [], j => by simp [Ex.sizes]
  | e :: es, 0 => by simp [Ex.sizes]
  | e :: es, j + 1 => by have := Ex.sizes_take_drop es j; simp [Ex.sizes]; omega
theorem Ex.sizes_take_succ (l : List Ex) (j : Nat) (h : j < l.length) : Ex.sizes (l.take (j + 1)) = Ex.sizes (l.take j) + (Ex.sizes l[j].kids + 1) := by
  have h1 := Ex.sizes_take_drop (l.take (j + 1)) j
  rw [List.take_take, Nat.min_eq_left (Nat.le_succ j)] at h1
  rw [h1]; congr 1
  rw [List.take_succ_eq_append_getElem h, List.drop_append_of_le_length (by simp; omega), List.drop_of_length_le (by simp; omega)]
  simp [Ex.sizes, Ex.size_kids]
end Go.Proofs.Ytckikiaockkmbaa
namespace Go.Proofs.Ytckikiaockkmbaa.SzE
open Go.RowKit Kit
set_option linter.unusedVariables false

def Does (n : Nat) : Prop := ∀ (w : World) (lo hi : Nat) (s : Value) (l : List Ex) (left : Int), Ex.sizes l < n → KidsR w lo hi s l → hi ≤ w.heap.size → 0 ≤ left → left ≤ 1048576 →
  Calls Try.prog 70 #[s, .int .i64 left] w fun e w' => e = .returned (.int .i64 (szOf left (Ex.sizes l))) ∧ New w w'

theorem szExpr_step (n : Nat) (H : Does n) (w : World) (lo hi : Nat) (k v : Int) (s : Value) (l : List Ex) (left : Int) (hl : Ex.sizes l < n) (hs : KidsR w lo hi s l) (h1 : hi ≤ w.heap.size) (h0 : 0 ≤ left) (hm : left ≤ 1048576) :
    Calls Try.prog 26 #[.agg #[.int .i64 k, .int .i64 v, s], .int .i64 left] w fun e w' => e = .returned (.int .i64 (szOf left (Ex.sizes l))) ∧ New w w' := by
  have HH := Lib.hid H; clear H
  go_enter Try.func26, Try.ntmps26
  go_wp2_with fail
  refine (HH.out _ lo hi s l left hl (hs.new h1 ((Kp.refl _ _).alloc _)) (by simp; omega) h0 hm).mono ?_
  rintro e w1 ⟨rfl, hn⟩
  have hN : New w w1 := ((Kp.refl _ _).alloc _).trans hn
  by_cases hc : ((Ex.sizes l : Nat) : Int) ≤ left
  · have h2 : 0 ≤ szOf left (Ex.sizes l) := by rw [szOf_hi hc]; omega
    obtain ⟨q, hq⟩ : ∃ q, szOf left (Ex.sizes l) = q := ⟨_, rfl⟩
    rw [hq] at h2 ⊢
    have Hq := Lib.hid hq
    clear hq HH
    go_wp2
    go_ret
    exact ⟨retI Hq.out.symm, hN⟩
  · have e1 := szOf_lo (left := left) (n := Ex.sizes l) (by omega)
    rw [e1]
    have E1 := Lib.hid e1
    clear HH e1
    go_wp2
    go_ret
    exact ⟨retI E1.out.symm, hN⟩

set_option maxHeartbeats 1000000 in
theorem szExprS_step (n : Nat) (H : Does n) (w : World) (lo hi : Nat) (s : Value) (l : List Ex) (left : Int) (hl : Ex.sizes l ≤ n) (hs : KidsR w lo hi s l) (h1 : hi ≤ w.heap.size) (h0 : 0 ≤ left) (hm : left ≤ 1048576) :
    Calls Try.prog 70 #[s, .int .i64 left] w fun e w' => e = .returned (.int .i64 (szOf left (Ex.sizes l))) ∧ New w w' := by
  obtain ⟨a, c, rfl, hl1⟩ := hs.len
  have hlen := Ex.length_sizes l
  have HH := Lib.hid H; clear H
  by_cases hc0 : ((l.length : Nat) : Int) ≤ left
  · go_enter Try.func70, Try.ntmps70
    go_wp2_with fail
    go_loopw [1, 5] (fun q i wr => ∃ (j : Nat) (L : Int), j ≤ l.length ∧ i = .int .i64 j ∧ q = .int .i64 L ∧ 0 ≤ L ∧ L ≤ 1048576 ∧ New w wr ∧ Hid (L = left - l.length + j - (Ex.sizes (l.take j) : Nat))) (fun _ i _ => l.length - (intOf i).toNat)
    case atStart => exact ⟨0, _, Nat.zero_le _, rfl, rfl, by omega, by omega, Kp.refl _ _, Lib.hid (by simp [Ex.sizes])⟩
    case round =>
      obtain ⟨j, L, hj, rfl, rfl, hL0, hL1, hN, hL⟩ := hrel
      by_cases hlt : j < l.length
      · obtain ⟨b, o, s, rfl, hb1, hb2, c0, c1, c2, hs1⟩ := hs.at j hlt
        have g0 := (hN.cell (b := b) (by omega) (fun f => f) (o + j * 3)).trans c0
        have g1 := (hN.cell (b := b) (by omega) (fun f => f) (o + j * 3 + 1)).trans c1
        have g2 := (hN.cell (b := b) (by omega) (fun f => f) (o + j * 3 + 2)).trans c2
        have k1 : KidsR wr lo hi s l[j].kids := hs1.new h1 hN
        have hsz : Ex.sizes l[j].kids < n := by have := Ex.kids_get l j hlt; omega
        have ht := Ex.sizes_take_succ l j hlt
        have ht2 := Ex.sizes_take_drop l (j + 1)
        have ht3 := Ex.length_sizes (l.drop (j + 1))
        rw [List.length_drop] at ht3
        have hL2 := hL.out
        have hT := Lib.hid ht; have hT2 := Lib.hid ht2; have hT3 := Lib.hid ht3; have hLh := Lib.hid hL2
        clear c0 c1 c2 hs1 hs ht ht2 ht3 hL hL2
        generalize l[j] = x at *
        go_wp2_with fail
        refine (szExpr_step n HH.out _ lo hi _ _ _ _ L hsz k1 (by have := hN.size; omega) hL0 hL1).mono ?_
        rintro r w1 ⟨rfl, hn⟩
        have hN1 : New w w1 := hN.trans hn
        by_cases hc : ((Ex.sizes x.kids : Nat) : Int) ≤ L
        · rw [szOf_hi hc]
          have hq0 : 0 ≤ L - (Ex.sizes x.kids : Nat) := by omega
          have hq1 : L - ((Ex.sizes x.kids : Nat) : Int) ≤ 1048576 := by omega
          have hq2 := Lib.hid (show L - ((Ex.sizes x.kids : Nat) : Int) = left - l.length + (j + 1 : Nat) - (Ex.sizes (l.take (j + 1)) : Nat) by have := hLh.out; have := hT.out; omega)
          generalize L - ((Ex.sizes x.kids : Nat) : Int) = q at *
          clear hc g0 g1 g2 k1 hn hN
          go_wp2
          go_roundw
          case rel => exact ⟨j + 1, q, by omega, by go_num, rfl, hq0, hq1, hN1, hq2⟩
          case measure => simp [intOf]; omega
        · rw [szOf_lo (by omega)]
          have hfin := Lib.hid (szOf_lo (left := left) (n := Ex.sizes l) (by have := hLh.out; have := hT.out; have := hT2.out; have := hT3.out; omega))
          clear hc g0 g1 g2 k1 hn hN
          go_wp2
          go_ret
          exact ⟨retI hfin.out.symm, hN1⟩
      · have hge : l.length ≤ j := by omega
        have hfin := Lib.hid (show L = szOf left (Ex.sizes l) by
          have h := hL.out
          rw [List.take_of_length_le hge] at h
          have : j = l.length := by omega
          subst this
          rw [szOf_hi (by omega)]; omega)
        clear hL hs
        go_wp2
        go_ret
        exact ⟨retI hfin.out, hN⟩
  · have hfin := Lib.hid (szOf_lo (left := left) (n := Ex.sizes l) (by omega))
    go_enter Try.func70, Try.ntmps70
    go_wp2
    go_ret
    exact ⟨retI hfin.out.symm, Kp.refl _ _⟩

theorem does : ∀ n, Does n
  | 0 => fun w lo hi s l left hl => absurd hl (Nat.not_lt_zero _)
  | n + 1 => fun w lo hi s l left hl hs h1 h0 hm => szExprS_step n (does n) w lo hi s l left (Nat.le_of_lt_succ hl) hs h1 h0 hm
theorem szExpr (w : World) (lo hi : Nat) (k v : Int) (s : Value) (l : List Ex) (left : Int) (hs : KidsR w lo hi s l) (h1 : hi ≤ w.heap.size) (h0 : 0 ≤ left) (hm : left ≤ 1048576) :
    Calls Try.prog 26 #[.agg #[.int .i64 k, .int .i64 v, s], .int .i64 left] w fun e w' => e = .returned (.int .i64 (szOf left (Ex.sizes l))) ∧ New w w' :=
  szExpr_step _ (does _) w lo hi k v s l left (Nat.lt_succ_self _) hs h1 h0 hm
end Go.Proofs.Ytckikiaockkmbaa.SzE
