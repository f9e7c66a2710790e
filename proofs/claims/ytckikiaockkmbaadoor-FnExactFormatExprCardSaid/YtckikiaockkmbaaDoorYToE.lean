/- toExpr, toExprS of laws: a copy in new memory. Condition: at most 2^20 nodes. -/
import Derived.Test.YtckikiaockkmbaaDoorYP2
import Derived.Test.YtckikiaockkmbaaDoorChecked
import Derived.WalkKit
import Derived.ProofKit
import Derived.Deep.QuietTactic
import Derived.BigQuiet
import Derived.StillTailTactics
import Derived.Deep.LoopGhost
namespace Go.Proofs.YtckikiaockkmbaaDoor.ToE
open Go.RowKit Kit
set_option linter.unusedVariables false

theorem info : (Tryd.prog.info? 45).map (fun i => (i.zero, i.size, i.bytes)) = some (some (.agg #[.int .i64 0, .int .i64 0, .slice none 0 0]), 3, 40) := by kernel_rfl

/-- what toExprS is to do at lists of fewer than n nodes -/
def Does (n : Nat) : Prop := ∀ (w : World) (lo hi : Nat) (s : Value) (l : List Ex), Ex.sizes l < n → Ex.sizes l ≤ 1048576 → KidsR w lo hi s l → hi ≤ w.heap.size →
  Calls Tryd.prog 33 #[s] w fun e w' => ∃ v, e = .returned v ∧ New w w' ∧ KidsR w' w.heap.size w'.heap.size v l

set_option maxHeartbeats 400000 in
theorem toExpr_step (n : Nat) (H : Does n) (w : World) (lo hi : Nat) (k v : Int) (s : Value) (l : List Ex) (hl : Ex.sizes l < n) (hm : Ex.sizes l ≤ 1048576) (hs : KidsR w lo hi s l) (h1 : hi ≤ w.heap.size) :
    Calls Tryd.prog 15 #[.agg #[.int .i64 k, .int .i64 v, s]] w fun e w' => ∃ t, e = .returned (.agg #[.int .i64 k, .int .i64 v, t]) ∧ New w w' ∧ KidsR w' w.heap.size w'.heap.size t l := by
  have HH := Lib.hid H; clear H
  go_enter Tryd.func15, Tryd.ntmps15
  go_wp2_with fail
  have hN0 : New w (((w.alloc (.cells #[.int .i64 k, .int .i64 v, s] 35)).alloc (.cells #[.int .i64 0, .int .i64 0, .slice none 0 0] 45)).alloc (.cells #[.int .i64 k, .int .i64 v, .slice none 0 0] 45)) := ((((Kp.refl _ w).alloc _).alloc _).alloc _)
  refine (HH.out _ lo hi s l hl hm (hs.new h1 hN0) (by simp; omega)).mono ?_
  rintro e w1 ⟨t, rfl, hn, ht⟩
  have hz := hn.size
  simp only [World.size_alloc] at hz ht
  have b1 : w1.heap[w.heap.size + 1]? = some (.cells #[.int .i64 0, .int .i64 0, .slice none 0 0] 45 (0, 0)) := heap_new hn (heap_old (heap_at (by simp)))
  have b2 : w1.heap[w.heap.size + 1 + 1]? = some (.cells #[.int .i64 k, .int .i64 v, .slice none 0 0] 45 (0, 0)) := heap_new hn (heap_at (by simp))
  have c10 := cell_of_heap b1 0
  have c11 := cell_of_heap b1 1
  have c12 := cell_of_heap b1 2
  have c20 := cell_of_heap b2 0
  have c21 := cell_of_heap b2 1
  have c22 := cell_of_heap b2 2
  have f1 := frozen_of_heap b1
  have f2 := frozen_of_heap b2
  have hN : New w w1 := hN0.trans hn
  obtain ⟨a, c, rfl, _⟩ := ht.len
  clear hN0 hn HH
  go_wp2_with fail
  have R := setCell_heap (o := 2) (setCell_heap (o := 1) (setCell_heap (o := 0) (heap_set b1 (c := w.heap.size + 1 + 1) (o := 2) (by omega) (.slice a l.length c)) (.int .i64 k)) (.int .i64 v)) (.slice a l.length c)
  refine bodyPost_ret (results_cell_row rfl _ _ _ _ _ _ _ rfl R Tryd.underlying45 rfl (by kernel_rfl)) rfl ⟨_, rfl, ?_, ?_⟩
  · exact (((hN.setCell (.inr (by simp; omega)) _).setCell (.inr (by simp)) _).setCell (.inr (by simp)) _).setCell (.inr (by simp)) _
  · exact ((((ht.set (.inl (by omega)) _ _).set (.inl (by omega)) _ _).set (.inl (by omega)) _ _).set (.inl (by omega)) _ _).mono (by omega) (by simp)

set_option maxHeartbeats 1000000 in
theorem toExprS_step (n : Nat) (H : Does n) (w : World) (lo hi : Nat) (s : Value) (l : List Ex) (hl : Ex.sizes l ≤ n) (hm : Ex.sizes l ≤ 1048576) (hs : KidsR w lo hi s l) (h1 : hi ≤ w.heap.size) :
    Calls Tryd.prog 33 #[s] w fun e w' => ∃ v, e = .returned v ∧ New w w' ∧ KidsR w' w.heap.size w'.heap.size v l := by
  obtain ⟨a, c, rfl, hl1⟩ := hs.len
  have HH := Lib.hid H; clear H
  have hlen : l.length ≤ 1048576 := by have := Ex.length_sizes l; omega
  have hmk := run_mk (P := Tryd.prog) _ _ _ _ _ Tryd.underlying43 info l.length (by omega) (by omega)
  go_enter Tryd.func33, Tryd.ntmps33
  go_wp2_with fail
  clear hmk
  have hR : Row (w.alloc (.cells (mkCells (.agg #[.int .i64 0, .int .i64 0, .slice none 0 0]) 3 l.length) 45)) w.heap.size (l.length * 3) 45 := Row.mk' _ _ _ _ _
  have hA : New w (w.alloc (.cells (mkCells (.agg #[.int .i64 0, .int .i64 0, .slice none 0 0]) 3 l.length) 45)) := (Kp.refl _ _).alloc _
  generalize w.alloc (.cells (mkCells (.agg #[.int .i64 0, .int .i64 0, .slice none 0 0]) 3 l.length) 45) = wA at *
  go_loopw [4] (fun i wr => ∃ j : Nat, j ≤ l.length ∧ i = .int .i64 j ∧ New w wr ∧ Row wr w.heap.size (l.length * 3) 45 ∧ Filled wr w.heap.size l j) (fun i _ => l.length - (intOf i).toNat)
  case atStart => exact ⟨0, Nat.zero_le _, rfl, hA, hR, Filled.zero _ _ _⟩
  case round =>
    obtain ⟨j, hj, rfl, hN, hrow, hF⟩ := hrel
    clear hA hR
    by_cases hlt : j < l.length
    · obtain ⟨b, o, s, rfl, hb1, hb2, c0, c1, c2, hs1⟩ := hs.at j hlt
      have g0 := (hN.cell (b := b) (by omega) (fun f => f) (o + j * 3)).trans c0
      have g1 := (hN.cell (b := b) (by omega) (fun f => f) (o + j * 3 + 1)).trans c1
      have g2 := (hN.cell (b := b) (by omega) (fun f => f) (o + j * 3 + 2)).trans c2
      have k1 : KidsR wr lo hi s l[j].kids := hs1.new h1 hN
      have hsz : Ex.sizes l[j].kids < n := by have := Ex.kids_get l j hlt; omega
      have hsm : Ex.sizes l[j].kids ≤ 1048576 := by have := Ex.kids_get l j hlt; omega
      have hk := Lib.hid (rfl : l[j].kind = l[j].kind)
      clear c0 c1 c2 hs1 hs
      go_wp2_with fail
      refine (toExpr_step n HH.out _ lo hi _ _ _ _ hsz hsm k1 (by have := hN.size; omega)).mono ?_
      rintro r w1 ⟨t, rfl, hn, ht⟩
      obtain ⟨ta, tc, rfl, _⟩ := ht.len
      have hrow1 := hrow.new hn
      obtain ⟨x0, d0⟩ := hrow1.cell (j * 3) (by omega)
      obtain ⟨x1, d1⟩ := hrow1.cell (j * 3 + 1) (by omega)
      obtain ⟨x2, d2⟩ := hrow1.cell (j * 3 + 2) (by omega)
      have hfr := hrow1.free
      have hF1 := hF.new hrow.lt hn
      have hN1 : New w w1 := hN.trans hn
      have ht1 := ht.mono (lo' := w.heap.size + 1) (by have := hrow.lt; omega) (Nat.le_refl _)
      clear g0 g1 g2 k1 hrow hF hn ht hN
      go_wp2
      go_roundw
      case rel => exact ⟨j + 1, by omega, by go_num, ((hN1.setCell (.inr (Nat.le_refl _)) _).setCell (.inr (Nat.le_refl _)) _).setCell (.inr (Nat.le_refl _)) _, ((hrow1.set _ _).set _ _).set _ _, hF1.step hrow1 hlt rfl rfl ht1⟩
      case measure => simp [intOf]; omega
    · have hge : l.length ≤ j := by omega
      have hF2 : Filled wr w.heap.size l l.length := by
        have : j = l.length := by omega
        rw [← this]; exact hF
      clear hF
      go_wp2
      go_ret
      exact ⟨_, rfl, hN, hF2.done hrow.lt hl1⟩

theorem does : ∀ n, Does n
  | 0 => fun w lo hi s l hl hm hs h1 => absurd hl (Nat.not_lt_zero _)
  | n + 1 => fun w lo hi s l hl hm hs h1 => toExprS_step n (does n) w lo hi s l (Nat.le_of_lt_succ hl) hm hs h1

theorem toExprS (w : World) (lo hi : Nat) (s : Value) (l : List Ex) (hm : Ex.sizes l ≤ 1048576) (hs : KidsR w lo hi s l) (h1 : hi ≤ w.heap.size) :
    Calls Tryd.prog 33 #[s] w fun e w' => ∃ v, e = .returned v ∧ New w w' ∧ KidsR w' w.heap.size w'.heap.size v l :=
  does _ w lo hi s l (Nat.lt_succ_self _) hm hs h1

theorem toExpr (w : World) (lo hi : Nat) (k v : Int) (s : Value) (l : List Ex) (hm : Ex.sizes l ≤ 1048576) (hs : KidsR w lo hi s l) (h1 : hi ≤ w.heap.size) :
    Calls Tryd.prog 15 #[.agg #[.int .i64 k, .int .i64 v, s]] w fun e w' => ∃ t, e = .returned (.agg #[.int .i64 k, .int .i64 v, t]) ∧ New w w' ∧ KidsR w' w.heap.size w'.heap.size t l :=
  toExpr_step _ (does _) w lo hi k v s l (Nat.lt_succ_self _) hm hs h1
end Go.Proofs.YtckikiaockkmbaaDoor.ToE
