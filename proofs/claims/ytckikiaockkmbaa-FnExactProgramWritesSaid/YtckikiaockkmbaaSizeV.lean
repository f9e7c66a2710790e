/- l2Size of spec. Condition: at most 2^20 nodes. -/
import Derived.Test.YtckikiaockkmbaaValS
import Derived.Test.YtckikiaockkmbaaStF
import Derived.Test.YtckikiaockkmbaaChecked
import Derived.WalkKit
import Derived.ProofKit
import Derived.Deep.QuietTactic
import Derived.BigQuiet
namespace Go.Proofs.Ytckikiaockkmbaa.SizeV
open Go.RowKit Kit Val
set_option linter.unusedVariables false
theorem stsZ_low : ∀ (l : List St) (d : Nat), ¬ 1 < d → stsZ l d = l.length
  | [], _, _ => by simp [stsZ]
  | s :: l, d, h => by rw [stsZ, stZ_eq, if_neg h, stsZ_low l d h]; simp; omega
def Does (n : Nat) : Prop := ∀ (w : World) (lo hi : Nat) (s : Value) (l : List St) (d : Int), St.sizes l < n → St.sizes l ≤ 1048576 → StsR w lo hi s l → hi ≤ w.heap.size → 0 ≤ d → d ≤ 10 →
  Calls Try.prog 67 #[s, .int .i64 d] w fun e w' => e = .returned (.int .i64 (stsZ l d.toNat)) ∧ ∃ k, w' = w.drewN k
set_option maxHeartbeats 2000000 in
theorem size_step (n : Nat) (H : Does n) (w : World) (lo hi : Nat) (s : Value) (l : List St) (d : Int) (hl : St.sizes l ≤ n) (hm : St.sizes l ≤ 1048576) (hs : StsR w lo hi s l) (h1 : hi ≤ w.heap.size) (hd0 : 0 ≤ d) (hd10 : d ≤ 10) :
    Calls Try.prog 67 #[s, .int .i64 d] w fun e w' => e = .returned (.int .i64 (stsZ l d.toNat)) ∧ ∃ k, w' = w.drewN k := by
  obtain ⟨aa, cc, rfl, hl1⟩ := hs.len
  have HH := Lib.hid H; clear H
  have hlen := St.length_sizes l
  by_cases g0 : 1 < d
  rotate_left
  · have D := Lib.hid (show (stsZ l d.toNat : Int) = l.length by rw [stsZ_low l d.toNat (by omega)])
    have g0b : d ≤ 1 := by omega
    have g0c : decide (1 < d) = false := by rw [decide_eq_false_iff_not]; exact g0
    clear g0 HH hs hm hl
    go_enter Try.func67, Try.ntmps67
    go_wp2_with fail
    go_loop [5, 6] (fun q i => q = .int .i64 l.length ∧ i = .int .i64 0) (fun _ i => 0)
    case atStart => exact ⟨rfl, rfl⟩
    case round =>
      obtain ⟨rfl, rfl⟩ := hrel
      by_cases hl0 : 0 < l.length
      · go_wp2
        go_ret
        exact ⟨retI D.out.symm, 0, rfl⟩
      · have hl00 : l.length ≤ 0 := by omega
        go_wp2
        go_ret
        exact ⟨retI D.out.symm, 0, rfl⟩
  go_enter Try.func67, Try.ntmps67
  go_wp2_with fail
  go_loopw [5, 6] (fun q i wr => ∃ (j m : Nat), j ≤ l.length ∧ i = .int .i64 j ∧ q = .int .i64 m ∧ m ≤ 2097152 ∧ (∃ k, wr = w.drewN k) ∧ Hid (m + j = l.length + stsZ (l.take j) d.toNat)) (fun _ i _ => l.length - (intOf i).toNat)
  case atStart => exact ⟨0, l.length, Nat.zero_le _, rfl, rfl, by omega, ⟨0, rfl⟩, Lib.hid (by simp [stsZ])⟩
  case round =>
    obtain ⟨j, m, hj, rfl, rfl, hm1, ⟨k, rfl⟩, hG⟩ := hrel
    by_cases hlt : j < l.length
    · obtain ⟨b, o, vi, vv, vb, ve, e, A⟩ := hs.elem j hlt
      cases e
      have c9 := A.c9
      have c10 := A.c10
      obtain ⟨ab, cb, rfl, _⟩ := A.rb.len
      obtain ⟨ae, ce, rfl, _⟩ := A.re.len
      have hp := St.parts_get l j hlt
      have hT := Lib.hid (stsZ_take d.toNat hlt)
      have hT1 := Lib.hid (stZ_eq l[j] d.toNat)
      have hle := Lib.hid (show stsZ (l.take (j + 1)) d.toNat ≤ 1048576 by have := stsZ_take_le l (j + 1) d.toNat; have := stsZ_le l d.toNat; omega)
      have Q1 := Lib.hid (show ∀ n', Calls Try.prog 67 #[.slice ab l[j].body.length cb, .int .i64 (d - 1)] (w.drewN (k + n')) fun e w' => e = .returned (.int .i64 (stsZ l[j].body (d - 1).toNat : Nat)) ∧ ∃ m, w' = w.drewN (k + m) from fun n' =>
        (HH.out _ lo hi _ _ (d - 1) (by omega) (by omega) (A.rb.kp (drewN_kp (fun _ => False) (k + n') (Kp.refl _ _)) h1 (fun _ f => f.elim)) (by rw [drewN_heap]; exact h1) (by omega) (by omega)).mono
          fun e w' ⟨he, m, hw⟩ => ⟨he, n' + m, by rw [hw, World.drewN_drewN, Nat.add_assoc]⟩)
      have Q2 := Lib.hid (show ∀ n', Calls Try.prog 67 #[.slice ae l[j].els.length ce, .int .i64 (d - 1)] (w.drewN (k + n')) fun e w' => e = .returned (.int .i64 (stsZ l[j].els (d - 1).toNat : Nat)) ∧ ∃ m, w' = w.drewN (k + m) from fun n' =>
        (HH.out _ lo hi _ _ (d - 1) (by omega) (by omega) (A.re.kp (drewN_kp (fun _ => False) (k + n') (Kp.refl _ _)) h1 (fun _ f => f.elim)) (by rw [drewN_heap]; exact h1) (by omega) (by omega)).mono
          fun e w' ⟨he, m, hw⟩ => ⟨he, n' + m, by rw [hw, World.drewN_drewN, Nat.add_assoc]⟩)
      clear A hp hs
      generalize l[j] = x at *
      have hS := Lib.hid (show m + stsZ x.body (d - 1).toNat + stsZ x.els (d - 1).toNat + (j + 1) = l.length + stsZ (l.take (j + 1)) d.toNat by
        have a1 := hG.out; have a2 := hT.out; have a3 := hT1.out
        rw [if_pos (by omega)] at a3
        rw [show (d - 1).toNat = d.toNat - 1 by omega]; omega)
      have hS2 : m + stsZ x.body (d - 1).toNat + stsZ x.els (d - 1).toNat ≤ 2097152 := by have := hS.out; have := hle.out; omega
      clear hT hT1 hG hle
      generalize stsZ x.body (d - 1).toNat = z1 at *
      generalize stsZ x.els (d - 1).toNat = z2 at *
      have e0 : IntKind.i64.wrap (d - 1) = d - 1 := IntWalk.i64_in _ (by omega)
      have e1 : IntKind.i64.wrap ((m : Int) + (z1 : Int)) = (m : Int) + (z1 : Int) := IntWalk.i64_in _ (by omega)
      have e2 : IntKind.i64.wrap ((m : Int) + (z1 : Int) + (z2 : Int)) = (m : Int) + (z1 : Int) + (z2 : Int) := IntWalk.i64_in _ (by omega)
      go_wp2_with fail
      go_quiet ((go_at_call 67; first | (with_reducible exact Q1.out _) | (with_reducible exact Q2.out _)))
      clear e0 e1 e2
      go_wp2
      go_roundw
      case rel => exact ⟨j + 1, m + z1 + z2, by omega, by go_num, by go_num, hS2, ⟨_, rfl⟩, hS⟩
      case measure => simp [intOf]; omega
    · have D := Lib.hid (show (stsZ l d.toNat : Int) = m by
        have h := hG.out
        rw [List.take_of_length_le (by omega)] at h
        omega)
      have hge : l.length ≤ j := by omega
      clear hG HH hs
      go_wp2
      go_ret
      exact ⟨retI D.out.symm, _, rfl⟩
theorem does : ∀ n, Does n
  | 0 => fun w lo hi s l d hl => absurd hl (Nat.not_lt_zero _)
  | n + 1 => fun w lo hi s l d hl h2 h3 h4 h5 h6 => size_step n (does n) w lo hi s l d (Nat.le_of_lt_succ hl) h2 h3 h4 h5 h6
end Go.Proofs.Ytckikiaockkmbaa.SizeV
