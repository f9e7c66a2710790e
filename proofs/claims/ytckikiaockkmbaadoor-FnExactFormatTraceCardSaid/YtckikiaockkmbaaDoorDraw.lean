/- The random source l17Rd: l17Open, pick, num: what they return is in range, and which memory they turn. Condition: fewer than 2^40 picks so far. -/
import Derived.Test.YtckikiaockkmbaaDoorKit
import Derived.Test.YtckikiaockkmbaaDoorLab
import Derived.Test.YtckikiaockkmbaaDoorChecked
import Derived.WalkKit
import Derived.ProofKit
import Derived.Deep.QuietTactic
import Derived.BigQuiet
namespace Go.Proofs.YtckikiaockkmbaaDoor.Draw
open Go.BigFrame
open Go.RowKit Kit
set_option linter.unusedVariables false

/-- the source lies in block br: its bytes below br, p picks so far -/
structure Rd (w : World) (br : Nat) (p : Nat) : Prop where
  src : ∃ (a : Option Addr) (len cap : Nat), w.heap[br]? = some (.cells #[.slice a len cap, .int .i64 p] 97 (0, 0)) ∧
    (len = 0 ∨ ∃ b o, a = some ⟨b, o, none⟩ ∧ b < br ∧ len ≤ 2000 ∧ len ≤ cap ∧ ∀ i, i < len → ∃ x : Int, 0 ≤ x ∧ x < 256 ∧ w.cell? ⟨b, o + i, none⟩ = some (.int .u8 x))

theorem Rd.lt {w : World} {br p : Nat} (h : Rd w br p) : br < w.heap.size := by
  obtain ⟨a, len, cap, hh, _⟩ := h.src
  exact heap_lt hh

/-- the source stays where neither its block nor what lies below is turned -/
theorem Rd.keep {w w' : World} {br p : Nat} (h : Rd w br p) {S : Nat → Prop} (k : Kp S w w') (hs : ∀ k, S k → br < k) : Rd w' br p := by
  have hlt := h.lt
  obtain ⟨a, len, cap, hh, hb⟩ := h.src
  refine ⟨a, len, cap, by rw [k.block br hlt (fun s => by have := hs _ s; omega)]; exact hh, ?_⟩
  rcases hb with h0 | ⟨b, o, ha, hbr, h2, h3, hc⟩
  · exact .inl h0
  · exact .inr ⟨b, o, ha, hbr, h2, h3, fun i hi => by
      obtain ⟨x, x0, x1, hx⟩ := hc i hi
      exact ⟨x, x0, x1, by rw [k.cell (by omega) (fun s => by have := hs _ s; omega)]; exact hx⟩⟩


theorem mixed (X n : Int) (h0 : 0 ≤ X) (h1 : X < 2305843009213693952) (hn : 1 ≤ n) : 0 ≤ (bits .xor .i64 X (X / 64)).tmod n ∧ (bits .xor .i64 X (X / 64)).tmod n < n := by
  obtain ⟨a, _⟩ := xor_nonneg X (X / 64) h0 (by omega) (by omega) (by omega)
  exact ⟨Int.tmod_nonneg _ a, by rw [Int.tmod_eq_emod_of_nonneg a]; exact Int.emod_lt_of_pos _ (by omega)⟩

set_option maxHeartbeats 400000 in
theorem pick_zero (w : World) (br p : Nat) (n : Int) (a : Option Addr) (len cap : Nat) (hp : p < 1099511627776)
    (c0 : w.cell? ⟨br, 0, none⟩ = some (.slice a len cap)) (c1 : w.cell? ⟨br, 1, none⟩ = some (.int .i64 p)) (f1 : w.frozen? ⟨br, 1, none⟩ = false) (h : n < 1 ∨ len = 0) :
    Calls Tryd.prog 41 #[.pointer (some ⟨br, 0, none⟩), .int .i64 n] w fun e w' => e = .returned (.int .i64 0) ∧ w' = w.setCell ⟨br, 1, none⟩ (.int .i64 (p + 1 : Int)) := by
  by_cases hn : n < 1
  · go_enter Tryd.func41, Tryd.ntmps41
    go_wp2
    go_ret
    exact ⟨rfl, rfl⟩
  · obtain rfl : len = 0 := by omega
    clear h
    go_enter Tryd.func41, Tryd.ntmps41
    go_wp2
    go_ret
    exact ⟨rfl, rfl⟩


set_option maxHeartbeats 400000 in
theorem pick_byte (w : World) (br p : Nat) (n : Int) (b o len cap : Nat) (x : Int) (hp : p < 1099511627776) (hne : ¬ br = b) (x0 : 0 ≤ x) (x1 : x < 256) (hl : len ≤ 2000)
    (c0 : w.cell? ⟨br, 0, none⟩ = some (.slice (some ⟨b, o, none⟩) len cap)) (c1 : w.cell? ⟨br, 1, none⟩ = some (.int .i64 p)) (f1 : w.frozen? ⟨br, 1, none⟩ = false) (hn : 1 ≤ n) (hlt : p < len)
    (hx : w.cell? ⟨b, o + p, none⟩ = some (.int .u8 x)) :
    Calls Tryd.prog 41 #[.pointer (some ⟨br, 0, none⟩), .int .i64 n] w fun e w' => e = .returned (.int .i64 (x % n)) ∧ w' = w.setCell ⟨br, 1, none⟩ (.int .i64 (p + 1 : Int)) := by
  have h0 : ((len : Int) == 0) = false := by simp; omega
  go_enter Tryd.func41, Tryd.ntmps41
  go_wp2
  go_ret
  exact ⟨rfl, rfl⟩


set_option maxHeartbeats 400000 in
theorem pick_mix (w : World) (br p : Nat) (n : Int) (b o len cap : Nat) (x y : Int) (hp : p < 1099511627776) (hne : ¬ br = b) (x0 : 0 ≤ x) (x1 : x < 256) (y0 : 0 ≤ y) (y1 : y < 256) (hl : len ≤ 2000)
    (c0 : w.cell? ⟨br, 0, none⟩ = some (.slice (some ⟨b, o, none⟩) len cap)) (c1 : w.cell? ⟨br, 1, none⟩ = some (.int .i64 p)) (f1 : w.frozen? ⟨br, 1, none⟩ = false) (hn : 1 ≤ n) (h1 : 0 < len) (hge : len ≤ p)
    (hx : w.cell? ⟨b, o + p % len, none⟩ = some (.int .u8 x)) (hy : w.cell? ⟨b, o + (p * 7 + 3) % len, none⟩ = some (.int .u8 y)) :
    Calls Tryd.prog 41 #[.pointer (some ⟨br, 0, none⟩), .int .i64 n] w fun e w' => (∃ v : Int, e = .returned (.int .i64 v) ∧ 0 ≤ v ∧ v < n) ∧ ∃ k, w' = (w.setCell ⟨br, 1, none⟩ (.int .i64 (p + 1 : Int))).drewN k := by
  have h0 : ((len : Int) == 0) = false := by simp; omega
  go_enter Tryd.func41, Tryd.ntmps41
  have hz : ¬ len = 0 := by omega
  have e2 : IntKind.i64.wrap ((p : Int) * 7) = (p : Int) * 7 := IntWalk.i64_in _ (by omega)
  have e3 : IntKind.i64.wrap ((p : Int) * 7 + 3) = (p : Int) * 7 + 3 := IntWalk.i64_in _ (by omega)
  have d1 : (0 : Int) ≤ (p : Int) / (len : Int) := Int.ediv_nonneg (by omega) (by omega)
  have d2 : (p : Int) / (len : Int) ≤ (p : Int) := Int.ediv_le_self _ (by omega)
  have q1 : (0 : Int) ≤ (p : Int) % (len : Int) := Int.emod_nonneg _ (by omega)
  have q2 : (p : Int) % (len : Int) < (len : Int) := Int.emod_lt_of_pos _ (by omega)
  have q3 : ((p : Int) % (len : Int)).toNat = p % len := by rw [← Int.natCast_emod]; rfl
  have r1 : (0 : Int) ≤ ((p : Int) * 7 + 3) % (len : Int) := Int.emod_nonneg _ (by omega)
  have r2 : ((p : Int) * 7 + 3) % (len : Int) < (len : Int) := Int.emod_lt_of_pos _ (by omega)
  have r3 : (((p : Int) * 7 + 3) % (len : Int)).toNat = (p * 7 + 3) % len := by
    rw [show (p : Int) * 7 + 3 = ((p * 7 + 3 : Nat) : Int) by omega, ← Int.natCast_emod]; rfl
  go_wp2
  go_quiet (fail)
  go_wp2
  go_ret
  refine ⟨⟨_, rfl, ?_⟩, _, rfl⟩
  exact mixed _ n (by omega) (by omega) hn

theorem one_setCell (w : World) (br o : Nat) (v : Value) : One br w (w.setCell ⟨br, o, none⟩ v) := (Kp.refl (fun k => k = br) w).setCell (p := ⟨br, o, none⟩) (.inl rfl) v

theorem Rd.step {w : World} {br p : Nat} (h : Rd w br p) (k : Nat) : Rd ((w.setCell ⟨br, 1, none⟩ (.int .i64 (p + 1 : Int))).drewN k) br (p + 1) := by
  obtain ⟨a, len, cap, hh, hb⟩ := h.src
  refine ⟨a, len, cap, ?_, ?_⟩
  · rw [drewN_heap, setCell_heap hh]; rfl
  · rcases hb with h0 | ⟨b, o, ha, hbr, h2, h3, hc⟩
    · exact .inl h0
    · exact .inr ⟨b, o, ha, hbr, h2, h3, fun i hi => by
        obtain ⟨x, x0, x1, hx⟩ := hc i hi
        refine ⟨x, x0, x1, ?_⟩
        have hk : One br w ((w.setCell ⟨br, 1, none⟩ (.int .i64 (p + 1 : Int))).drewN k) := drewN_kp _ k (one_setCell w br 1 _)
        rw [hk.cell (by have := cell_lt hx; omega) (by omega)]; exact hx⟩

/-- what pick leaves -/
def Picked (w : World) (br p : Nat) (n : Int) (e : Ending) (w' : World) : Prop :=
  ∃ v : Int, e = .returned (.int .i64 v) ∧ 0 ≤ v ∧ (1 ≤ n → v < n) ∧ (n < 1 → v = 0) ∧ One br w w' ∧ Rd w' br (p + 1)

theorem pick (w : World) (br p : Nat) (n : Int) (h : Rd w br p) (hp : p < 1099511627776) :
    Calls Tryd.prog 41 #[.pointer (some ⟨br, 0, none⟩), .int .i64 n] w (Picked w br p n) := by
  obtain ⟨a, len, cap, hh, hb⟩ := h.src
  have c0 := cell_of_heap hh 0
  have c1 := cell_of_heap hh 1
  have f1 := frozen_of_heap hh 1
  by_cases hz : n < 1 ∨ len = 0
  · refine (pick_zero w br p n a len cap hp c0 c1 f1 hz).mono ?_
    rintro e w' ⟨rfl, rfl⟩
    exact ⟨0, rfl, by omega, by omega, fun _ => rfl, one_setCell _ _ _ _, h.step 0⟩
  · rcases hb with h0 | ⟨b, o, rfl, hbr, h2, h3, hc⟩
    · omega
    · by_cases hlt : p < len
      · obtain ⟨x, x0, x1, hx⟩ := hc p hlt
        refine (pick_byte w br p n b o len cap x hp (by omega) x0 x1 h2 c0 c1 f1 (by omega) hlt hx).mono ?_
        rintro e w' ⟨rfl, rfl⟩
        exact ⟨_, rfl, Int.emod_nonneg _ (by omega), fun h => Int.emod_lt_of_pos _ (by omega), fun h => by omega, one_setCell _ _ _ _, h.step 0⟩
      · obtain ⟨x, x0, x1, hx⟩ := hc (p % len) (Nat.mod_lt _ (by omega))
        obtain ⟨y, y0, y1, hy⟩ := hc ((p * 7 + 3) % len) (Nat.mod_lt _ (by omega))
        refine (pick_mix w br p n b o len cap x y hp (by omega) x0 x1 y0 y1 h2 c0 c1 f1 (by omega) (by omega) (by omega) hx hy).mono ?_
        rintro e w' ⟨⟨v, rfl, v0, v1⟩, k, rfl⟩
        exact ⟨v, rfl, v0, fun _ => v1, fun h => by omega, drewN_kp _ k (one_setCell _ _ _ _), h.step k⟩

/-- what num leaves: one of the list's numbers -/
def Drawn (w : World) (br p : Nat) (Q : Int → Prop) (e : Ending) (w' : World) : Prop :=
  ∃ v : Int, e = .returned (.int .i64 v) ∧ Q v ∧ One br w w' ∧ Rd w' br (p + 1)

set_option maxHeartbeats 400000 in
theorem num (w : World) (br p : Nat) (b n cap : Nat) (Q : Int → Prop) (h : Rd w br p) (hp : p < 1099511627776) (hn : 1 ≤ n) (hb : ¬ br = b) (hm : n ≤ 1000)
    (hc : ∀ i, i < n → ∃ x : Int, Q x ∧ w.cell? ⟨b, i, none⟩ = some (.int .i64 x)) :
    Calls Tryd.prog 42 #[.pointer (some ⟨br, 0, none⟩), .slice (some ⟨b, 0, none⟩) n cap] w (Drawn w br p Q) := by
  have H := Lib.hid hc; clear hc
  go_enter Tryd.func42, Tryd.ntmps42
  go_wp2_with fail
  refine (pick w br p _ h hp).mono ?_
  rintro e w1 ⟨v, rfl, v0, v1, _, h1, h2⟩
  have v2 : v < n := v1 (by omega)
  obtain ⟨k, rfl⟩ := Int.eq_ofNat_of_zero_le v0
  obtain ⟨x, hx, hcx⟩ := H.out k (by omega)
  have hcell : w1.cell? ⟨b, k, none⟩ = some (.int .i64 x) := by rw [h1.cell (cell_lt hcx) (by omega)]; exact hcx
  clear v1 hcx
  go_wp2
  go_ret
  exact ⟨x, rfl, hx, h1, h2⟩

set_option maxHeartbeats 400000 in
/-- l17Open: a new source -/
theorem l17Open (w : World) (a : Option Addr) (len cap : Nat) (hlc : len ≤ cap) (hm : cap ≤ maxLen) (hc : len = 0 ∨ ∃ b o, a = some ⟨b, o, none⟩ ∧ ∀ i, i < len → ∃ x : Int, 0 ≤ x ∧ x < 256 ∧ w.cell? ⟨b, o + i, none⟩ = some (.int .u8 x)) :
    Calls Tryd.prog 39 #[.slice a len cap] w fun e w' => e = .returned (.pointer (some ⟨w.heap.size, 0, none⟩)) ∧ New w w' ∧ Rd w' w.heap.size 0 := by
  unfold maxLen at hm
  by_cases hl : 2000 < len
  · rcases hc with h0 | ⟨b, o, rfl, hc⟩
    · omega
    · have H := Lib.hid hc; clear hc
      go_enter Tryd.func39, Tryd.ntmps39
      go_wp2
      go_ret
      refine ⟨rfl, (Kp.refl _ _).alloc _, ⟨_, _, _, alloc_heap _ _, .inr ⟨b, o, rfl, ?_, by omega, by omega, fun i hi => ?_⟩⟩⟩
      · obtain ⟨x, _, _, hx⟩ := H.out 0 (by omega)
        exact cell_lt hx
      · obtain ⟨x, x0, x1, hx⟩ := H.out i (by omega)
        exact ⟨x, x0, x1, by rw [World.cell?_alloc_lt _ _ _ (cell_lt hx)]; exact hx⟩
  · have H := Lib.hid hc; clear hc
    go_enter Tryd.func39, Tryd.ntmps39
    go_wp2
    go_ret
    refine ⟨rfl, (Kp.refl _ _).alloc _, ⟨_, _, _, alloc_heap _ _, ?_⟩⟩
    rcases H.out with h0 | ⟨b, o, rfl, hc⟩
    · exact .inl h0
    · by_cases h0 : len = 0
      · exact .inl h0
      · refine .inr ⟨b, o, rfl, ?_, by omega, hlc, fun i hi => ?_⟩
        · obtain ⟨x, _, _, hx⟩ := hc 0 (by omega)
          exact cell_lt hx
        · obtain ⟨x, x0, x1, hx⟩ := hc i (by omega)
          exact ⟨x, x0, x1, by rw [World.cell?_alloc_lt _ _ _ (cell_lt hx)]; exact hx⟩

end Go.Proofs.YtckikiaockkmbaaDoor.Draw
