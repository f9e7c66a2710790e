/- l2Arity, l2Limit, l2Atom, l2Shape, l2Count, l2Right of spec. No conditions beyond the sizes. -/
import Derived.Test.YtckikiaockkmbaaDoorYP2
import Derived.StillTailTactics
import Derived.Deep.QuietTactic
import Derived.BigQuiet
import Derived.Deep.RegionHeld3
import Derived.Test.YtckikiaockkmbaaDoorYP1
namespace Go.Proofs.YtckikiaockkmbaaDoor.ShapeV
open Go.RowKit Kit Val
set_option linter.unusedVariables false
set_option maxHeartbeats 1000000 in
theorem l2Arity {w : World} (k : Int) : Calls Tryd.prog 80 #[.int .i64 k] w fun e w' => e = .returned (.int .i64 (arity k)) ∧ w = w' := by
  by_cases h1 : k = 1
  · subst h1
    have D := Lib.hid (show arity 1 = 0 from rfl)
    go_enter Tryd.func80, Tryd.ntmps80
    go_wp2
    go_ret
    exact ⟨retI D.out.symm, rfl⟩
  by_cases h2 : k = 2
  · subst h2
    clear h1
    have D := Lib.hid (show arity 2 = 0 from rfl)
    go_enter Tryd.func80, Tryd.ntmps80
    go_wp2
    go_ret
    exact ⟨retI D.out.symm, rfl⟩
  by_cases h3 : k = 3
  · subst h3
    clear h1 h2
    have D := Lib.hid (show arity 3 = 1 from rfl)
    go_enter Tryd.func80, Tryd.ntmps80
    go_wp2
    go_ret
    exact ⟨retI D.out.symm, rfl⟩
  by_cases h4 : 4 ≤ k
  rotate_left
  · have e1 : (k == 1) = false := by simp [h1]
    have e2 : (k == 2) = false := by simp [h2]
    have e3 : (k == 3) = false := by simp [h3]
    have D := Lib.hid (show arity k = -1 by unfold arity; repeat (first | rw [if_neg (by omega)] | rw [if_pos (by omega)]))
    have e11 : (k == 11) = false := by simp; omega
    clear h1 h2 h3
    go_enter Tryd.func80, Tryd.ntmps80
    go_wp2
    go_ret
    exact ⟨retI D.out.symm, rfl⟩
  by_cases h10 : k ≤ 10
  · have e1 : (k == 1) = false := by simp [h1]
    have e2 : (k == 2) = false := by simp [h2]
    have e3 : (k == 3) = false := by simp [h3]
    have D := Lib.hid (show arity k = 2 by unfold arity; repeat (first | rw [if_neg (by omega)] | rw [if_pos (by omega)]))
    clear h1 h2 h3
    go_enter Tryd.func80, Tryd.ntmps80
    go_wp2
    go_ret
    exact ⟨retI D.out.symm, rfl⟩
  by_cases h11 : k = 11
  · subst h11
    have D := Lib.hid (show arity 11 = 3 from rfl)
    clear h1 h2 h3 h4 h10
    go_enter Tryd.func80, Tryd.ntmps80
    go_wp2
    go_ret
    exact ⟨retI D.out.symm, rfl⟩
  have e1 : (k == 1) = false := by simp [h1]
  have e2 : (k == 2) = false := by simp [h2]
  have e3 : (k == 3) = false := by simp [h3]
  have D := Lib.hid (show arity k = -1 by unfold arity; repeat (first | rw [if_neg (by omega)] | rw [if_pos (by omega)]))
  have e11 : (k == 11) = false := by simp [h11]
  clear h1 h2 h3
  go_enter Tryd.func80, Tryd.ntmps80
  go_wp2
  go_ret
  exact ⟨retI D.out.symm, rfl⟩
set_option maxHeartbeats 1000000 in
theorem l2Limit {w : World} {a a' : Option Addr} {nv c na c' : Nat} {tc : Value} (k : Int) (hv : nv ≤ 9223372036854775807) (ha : na ≤ 9223372036854775807) : Calls Tryd.prog 81 #[.agg #[.slice a nv c, .slice a' na c', tc], .int .i64 k] w fun e w' => e = .returned (.int .i64 (limit nv na k)) ∧ New w w' := by
  by_cases h1 : k = 1
  · subst h1
    have D := Lib.hid (show limit nv na 1 = 256 from rfl)
    go_enter Tryd.func81, Tryd.ntmps81
    go_wp2
    go_ret
    exact ⟨retI D.out.symm, (Kp.refl _ _).alloc _⟩
  by_cases h2 : k = 2
  · subst h2
    have D := Lib.hid (show limit nv na 2 = nv from rfl)
    clear h1
    go_enter Tryd.func81, Tryd.ntmps81
    go_wp2
    go_ret
    exact ⟨retI D.out.symm, (Kp.refl _ _).alloc _⟩
  by_cases h3 : k = 3
  · subst h3
    have D := Lib.hid (show limit nv na 3 = na from rfl)
    clear h1 h2
    go_enter Tryd.func81, Tryd.ntmps81
    go_wp2
    go_ret
    exact ⟨retI D.out.symm, (Kp.refl _ _).alloc _⟩
  have e1 : (k == 1) = false := by simp [h1]
  have e2 : (k == 2) = false := by simp [h2]
  have e3 : (k == 3) = false := by simp [h3]
  have D := Lib.hid (show limit nv na k = 1 by unfold limit; rw [if_neg h1, if_neg h2, if_neg h3])
  clear h1 h2 h3
  go_enter Tryd.func81, Tryd.ntmps81
  go_wp2
  go_ret
  exact ⟨retI D.out.symm, (Kp.refl _ _).alloc _⟩
set_option maxHeartbeats 1000000 in
theorem l2Atom {w : World} (k v : Int) (s : Value) : Calls Tryd.prog 82 #[.agg #[.int .i64 k, .int .i64 v, s]] w fun e w' => e = .returned (.bool (k == 1 || k == 2)) ∧ New w w' := by
  cases h1 : (k == 1)
  · go_enter Tryd.func82, Tryd.ntmps82
    go_wp2
    go_ret
    exact ⟨retB (by simp), (Kp.refl _ _).alloc _⟩
  · go_enter Tryd.func82, Tryd.ntmps82
    go_wp2
    go_ret
    exact ⟨retB (by simp), (Kp.refl _ _).alloc _⟩
def Does (n : Nat) : Prop := ∀ (w : World) (lo hi : Nat) (a a' : Option Addr) (nv c na c' : Nat) (tc : Value) (k v : Int) (s : Value) (l : List Ex) (d : Int), Ex.sizes l < n → KidsR w lo hi s l → hi ≤ w.heap.size → 0 ≤ d → d ≤ 10 → nv ≤ 9223372036854775807 → na ≤ 9223372036854775807 →
  Calls Tryd.prog 64 #[.agg #[.slice a nv c, .slice a' na c', tc], .agg #[.int .i64 k, .int .i64 v, s], .int .i64 d] w fun e w' => e = .returned (.bool (shp nv na (.node k v l) d.toNat)) ∧ New w w'
set_option maxHeartbeats 8000000 in
theorem shape_step (n : Nat) (H : Does n) (w : World) (lo hi : Nat) (a a' : Option Addr) (nv c na c' : Nat) (tc : Value) (k v : Int) (s : Value) (l : List Ex) (d : Int) (hl : Ex.sizes l ≤ n) (hs : KidsR w lo hi s l) (h1 : hi ≤ w.heap.size) (hd0 : 0 ≤ d) (hd10 : d ≤ 10) (hnv : nv ≤ 9223372036854775807) (hna : na ≤ 9223372036854775807) :
    Calls Tryd.prog 64 #[.agg #[.slice a nv c, .slice a' na c', tc], .agg #[.int .i64 k, .int .i64 v, s], .int .i64 d] w fun e w' => e = .returned (.bool (shp nv na (.node k v l) d.toNat)) ∧ New w w' := by
  obtain ⟨a2, c2, rfl, hl1⟩ := hs.len
  have HH := Lib.hid H; clear H
  go_enter Tryd.func64, Tryd.ntmps64
  go_wp2_with fail
  have N0 : New w ((w.alloc (.cells #[.slice a nv c, .slice a' na c', tc] 41)).alloc (.cells #[.int .i64 k, .int .i64 v, .slice a2 l.length c2] 45)) := (((Kp.refl _ _).alloc _).alloc _)
  have bA_0 : ((w.alloc (.cells #[.slice a nv c, .slice a' na c', tc] 41)).alloc (.cells #[.int .i64 k, .int .i64 v, .slice a2 l.length c2] 45)).heap[w.heap.size]? = some (.cells #[.slice a nv c, .slice a' na c', tc] 41) := heap_old (alloc_heap _ _)
  have bB_0 : ((w.alloc (.cells #[.slice a nv c, .slice a' na c', tc] 41)).alloc (.cells #[.int .i64 k, .int .i64 v, .slice a2 l.length c2] 45)).heap[w.heap.size + 1]? = some (.cells #[.int .i64 k, .int .i64 v, .slice a2 l.length c2] 45) := heap_at (by simp)
  have z0 : w.heap.size + 1 < ((w.alloc (.cells #[.slice a nv c, .slice a' na c', tc] 41)).alloc (.cells #[.int .i64 k, .int .i64 v, .slice a2 l.length c2] 45)).heap.size := by simp
  generalize ((w.alloc (.cells #[.slice a nv c, .slice a' na c', tc] 41)).alloc (.cells #[.int .i64 k, .int .i64 v, .slice a2 l.length c2] 45)) = w0 at *
  obtain ⟨bA_0_c0, bA_0_c1, bA_0_c2⟩ := cells3 bA_0
  obtain ⟨bB_0_c0, bB_0_c1, bB_0_c2⟩ := cells3 bB_0
  have N0d : New w w0.drew := N0.drew
  have z0d : w.heap.size + 1 < w0.drew.heap.size := by simpa using z0
  have bA_0d : w0.drew.heap[w.heap.size]? = some (.cells #[.slice a nv c, .slice a' na c', tc] 41) := bA_0
  have bB_0d : w0.drew.heap[w.heap.size + 1]? = some (.cells #[.int .i64 k, .int .i64 v, .slice a2 l.length c2] 45) := bB_0
  have U := Lib.hid (show shp nv na (.node k v l) d.toNat = (decide (1 ≤ d.toNat) && decide ((l.length : Int) = arity k) && decide (0 ≤ v) && decide (v < limit nv na k) && shps nv na l (d.toNat - 1) && (!(k == 3) || atom0 l)) by rw [shp])
  by_cases g0 : d < 1
  · have D := Lib.hid (show shp nv na (.node k v l) d.toNat = false by
      have e : decide (1 ≤ d.toNat) = false := by rw [decide_eq_false_iff_not]; omega
      rw [U.out, e]; rfl)
    go_wp2_with fail
    refine wp_region_held_drew (S := fun w' => w'.cell? ⟨w.heap.size, 0, none⟩ = some (.slice a nv c) ∧ w'.cell? ⟨w.heap.size, 1, none⟩ = some (.slice a' na c') ∧ w'.cell? ⟨w.heap.size, 2, none⟩ = some (tc) ∧ w'.cell? ⟨w.heap.size + 1, 0, none⟩ = some (.int .i64 k) ∧ w'.cell? ⟨w.heap.size + 1, 1, none⟩ = some (.int .i64 v) ∧ w'.cell? ⟨w.heap.size + 1, 2, none⟩ = some (.slice a2 l.length c2)) (by kernel_rfl) ?_ (fun hHeld => ?_)
    · exact ⟨bA_0_c0, bA_0_c1, bA_0_c2, bB_0_c0, bB_0_c1, bB_0_c2⟩
    refine HT 0 rfl ?_
    try simp only [AP]
    refine HT 1 rfl ?_
    try simp only [AP]
    refine HT 2 rfl ?_
    try simp only [AP]
    refine HS 3 rfl ?_
    try simp only [AP]
    refine HS 4 rfl ?_
    try simp only [AP]
    refine HS 5 rfl ?_
    try simp only [AP]
    refine HS 6 rfl ?_
    try simp only [AP]
    refine HS 7 rfl ?_
    try simp only [AP]
    refine HS 8 rfl ?_
    try simp only [AP]
    refine HS 9 rfl ?_
    try simp only [AP]
    refine HT 10 rfl ?_
    try simp only [AP]
    refine HT 11 rfl ?_
    try simp only [AP]
    refine HS 12 rfl ?_
    try simp only [AP]
    refine HS 13 rfl ?_
    try simp only [AP]
    refine HS 14 rfl ?_
    try simp only [AP]
    refine HT 15 rfl ?_
    try simp only [AP]
    refine HT 16 rfl ?_
    try simp only [AP]
    refine HS 17 rfl ?_
    try simp only [AP]
    refine HS 18 rfl ?_
    try simp only [AP]
    refine HS 19 rfl ?_
    try simp only [AP]
    refine HS 20 rfl ?_
    try simp only [AP]
    refine HS 21 rfl ?_
    try simp only [AP]
    refine HS 22 rfl ?_
    try simp only [AP]
    refine HS 23 rfl ?_
    try simp only [AP]
    refine HT 24 rfl ?_
    try simp only [AP]
    refine wpAnyH_done (by kernel_rfl) ?_ _
    go_wp2
    go_ret
    exact ⟨retB D.out.symm, N0d⟩
  have g0b : 1 ≤ d := by omega
  have g0c : decide (d < 1) = false := by rw [decide_eq_false_iff_not]; exact g0
  have e0 : decide (1 ≤ d.toNat) = true := by rw [decide_eq_true_eq]; omega
  have E0 := Lib.hid e0
  clear e0 g0
  by_cases g1 : (l.length : Int) = arity k
  rotate_left
  · have D := Lib.hid (show shp nv na (.node k v l) d.toNat = false by
      have e : decide ((l.length : Int) = arity k) = false := by rw [decide_eq_false_iff_not]; exact g1
      rw [U.out, e]; simp)
    have e1 : ((l.length : Int) != arity k) = true := by rw [bne_iff_ne]; exact g1
    clear g1
    go_wp2_with fail
    refine wp_region_held_drew (S := fun w' => w'.cell? ⟨w.heap.size, 0, none⟩ = some (.slice a nv c) ∧ w'.cell? ⟨w.heap.size, 1, none⟩ = some (.slice a' na c') ∧ w'.cell? ⟨w.heap.size, 2, none⟩ = some (tc) ∧ w'.cell? ⟨w.heap.size + 1, 0, none⟩ = some (.int .i64 k) ∧ w'.cell? ⟨w.heap.size + 1, 1, none⟩ = some (.int .i64 v) ∧ w'.cell? ⟨w.heap.size + 1, 2, none⟩ = some (.slice a2 l.length c2)) (by kernel_rfl) ?_ (fun hHeld => ?_)
    · exact ⟨bA_0_c0, bA_0_c1, bA_0_c2, bB_0_c0, bB_0_c1, bB_0_c2⟩
    refine HT 0 rfl ?_
    try simp only [AP]
    refine HT 1 rfl ?_
    try simp only [AP]
    refine HT 2 rfl ?_
    try simp only [AP]
    refine HT 3 rfl ?_
    try simp only [AP]
    refine HT 4 rfl ?_
    try simp only [AP]
    refine HT 5 rfl ?_
    try simp only [AP]
    refine HT 6 rfl ?_
    try simp only [AP]
    refine HT 7 rfl ?_
    try simp only [AP]
    refine HR 8 rfl fun K hK => ?_
    go_simp
    refine (l2Arity k).mono ?_
    rintro e w' ⟨rfl, rfl⟩
    go_simp
    refine hK.out _ _ ?_ (fun hHeld2 => ?_)
    · exact ⟨bA_0_c0, bA_0_c1, bA_0_c2, bB_0_c0, bB_0_c1, bB_0_c2⟩
    clear hK K hHeld
    have hHeld := hHeld2
    clear hHeld2
    try simp only [AP]
    refine HT 9 rfl ?_
    try simp only [AP]
    refine HT 10 rfl ?_
    try simp only [AP]
    refine HT 11 rfl ?_
    try simp only [AP]
    refine HS 12 rfl ?_
    try simp only [AP]
    refine HS 13 rfl ?_
    try simp only [AP]
    refine HS 14 rfl ?_
    try simp only [AP]
    refine HT 15 rfl ?_
    try simp only [AP]
    refine HT 16 rfl ?_
    try simp only [AP]
    refine HS 17 rfl ?_
    try simp only [AP]
    refine HS 18 rfl ?_
    try simp only [AP]
    refine HS 19 rfl ?_
    try simp only [AP]
    refine HS 20 rfl ?_
    try simp only [AP]
    refine HS 21 rfl ?_
    try simp only [AP]
    refine HS 22 rfl ?_
    try simp only [AP]
    refine HS 23 rfl ?_
    try simp only [AP]
    refine HT 24 rfl ?_
    try simp only [AP]
    refine wpAnyH_done (by kernel_rfl) ?_ _
    go_wp2
    go_ret
    exact ⟨retB D.out.symm, N0d⟩
  have G1 := Lib.hid g1
  have e1 : ((l.length : Int) != arity k) = false := by rw [bne_eq_false_iff_eq]; exact g1
  have ar3 : l.length ≤ 3 := by have : arity k ≤ 3 := (by unfold arity; repeat' split <;> omega); omega
  clear g1
  by_cases g2 : v < 0
  · have D := Lib.hid (show shp nv na (.node k v l) d.toNat = false by
      have e : decide (0 ≤ v) = false := by rw [decide_eq_false_iff_not]; omega
      rw [U.out, e]; simp)
    go_wp2_with fail
    refine wp_region_held_drew (S := fun w' => w'.cell? ⟨w.heap.size, 0, none⟩ = some (.slice a nv c) ∧ w'.cell? ⟨w.heap.size, 1, none⟩ = some (.slice a' na c') ∧ w'.cell? ⟨w.heap.size, 2, none⟩ = some (tc) ∧ w'.cell? ⟨w.heap.size + 1, 0, none⟩ = some (.int .i64 k) ∧ w'.cell? ⟨w.heap.size + 1, 1, none⟩ = some (.int .i64 v) ∧ w'.cell? ⟨w.heap.size + 1, 2, none⟩ = some (.slice a2 l.length c2)) (by kernel_rfl) ?_ (fun hHeld => ?_)
    · exact ⟨bA_0_c0, bA_0_c1, bA_0_c2, bB_0_c0, bB_0_c1, bB_0_c2⟩
    refine HT 0 rfl ?_
    try simp only [AP]
    refine HT 1 rfl ?_
    try simp only [AP]
    refine HT 2 rfl ?_
    try simp only [AP]
    refine HT 3 rfl ?_
    try simp only [AP]
    refine HT 4 rfl ?_
    try simp only [AP]
    refine HT 5 rfl ?_
    try simp only [AP]
    refine HT 6 rfl ?_
    try simp only [AP]
    refine HT 7 rfl ?_
    try simp only [AP]
    refine HR 8 rfl fun K hK => ?_
    go_simp
    refine (l2Arity k).mono ?_
    rintro e w' ⟨rfl, rfl⟩
    go_simp
    refine hK.out _ _ ?_ (fun hHeld2 => ?_)
    · exact ⟨bA_0_c0, bA_0_c1, bA_0_c2, bB_0_c0, bB_0_c1, bB_0_c2⟩
    clear hK K hHeld
    have hHeld := hHeld2
    clear hHeld2
    try simp only [AP]
    refine HT 9 rfl ?_
    try simp only [AP]
    refine HT 10 rfl ?_
    try simp only [AP]
    refine HT 11 rfl ?_
    try simp only [AP]
    refine HT 12 rfl ?_
    try simp only [AP]
    refine HT 13 rfl ?_
    try simp only [AP]
    refine HT 14 rfl ?_
    try simp only [AP]
    refine HT 15 rfl ?_
    try simp only [AP]
    refine HT 16 rfl ?_
    try simp only [AP]
    refine HS 17 rfl ?_
    try simp only [AP]
    refine HS 18 rfl ?_
    try simp only [AP]
    refine HS 19 rfl ?_
    try simp only [AP]
    refine HS 20 rfl ?_
    try simp only [AP]
    refine HS 21 rfl ?_
    try simp only [AP]
    refine HS 22 rfl ?_
    try simp only [AP]
    refine HS 23 rfl ?_
    try simp only [AP]
    refine HT 24 rfl ?_
    try simp only [AP]
    refine wpAnyH_done (by kernel_rfl) ?_ _
    go_wp2
    go_ret
    exact ⟨retB D.out.symm, N0d⟩
  have g2b : 0 ≤ v := by omega
  have g2c : decide (v < 0) = false := by rw [decide_eq_false_iff_not]; exact g2
  clear g2
  by_cases g3 : limit nv na k ≤ v
  · have D := Lib.hid (show shp nv na (.node k v l) d.toNat = false by
      have e : decide (v < limit nv na k) = false := by rw [decide_eq_false_iff_not]; omega
      rw [U.out, e]; simp)
    go_wp2_with fail
    refine wp_region_held_drew (S := fun w' => w'.cell? ⟨w.heap.size, 0, none⟩ = some (.slice a nv c) ∧ w'.cell? ⟨w.heap.size, 1, none⟩ = some (.slice a' na c') ∧ w'.cell? ⟨w.heap.size, 2, none⟩ = some (tc) ∧ w'.cell? ⟨w.heap.size + 1, 0, none⟩ = some (.int .i64 k) ∧ w'.cell? ⟨w.heap.size + 1, 1, none⟩ = some (.int .i64 v) ∧ w'.cell? ⟨w.heap.size + 1, 2, none⟩ = some (.slice a2 l.length c2)) (by kernel_rfl) ?_ (fun hHeld => ?_)
    · exact ⟨bA_0_c0, bA_0_c1, bA_0_c2, bB_0_c0, bB_0_c1, bB_0_c2⟩
    refine HT 0 rfl ?_
    try simp only [AP]
    refine HT 1 rfl ?_
    try simp only [AP]
    refine HT 2 rfl ?_
    try simp only [AP]
    refine HT 3 rfl ?_
    try simp only [AP]
    refine HT 4 rfl ?_
    try simp only [AP]
    refine HT 5 rfl ?_
    try simp only [AP]
    refine HT 6 rfl ?_
    try simp only [AP]
    refine HT 7 rfl ?_
    try simp only [AP]
    refine HR 8 rfl fun K hK => ?_
    go_simp
    refine (l2Arity k).mono ?_
    rintro e w' ⟨rfl, rfl⟩
    go_simp
    refine hK.out _ _ ?_ (fun hHeld2 => ?_)
    · exact ⟨bA_0_c0, bA_0_c1, bA_0_c2, bB_0_c0, bB_0_c1, bB_0_c2⟩
    clear hK K hHeld
    have hHeld := hHeld2
    clear hHeld2
    try simp only [AP]
    refine HT 9 rfl ?_
    try simp only [AP]
    refine HT 10 rfl ?_
    try simp only [AP]
    refine HT 11 rfl ?_
    try simp only [AP]
    refine HT 12 rfl ?_
    try simp only [AP]
    refine HT 13 rfl ?_
    try simp only [AP]
    refine HT 14 rfl ?_
    try simp only [AP]
    refine HT 15 rfl ?_
    try simp only [AP]
    refine HT 16 rfl ?_
    try simp only [AP]
    refine HT 17 rfl ?_
    try simp only [AP]
    refine HT 18 rfl ?_
    try simp only [AP]
    refine HT 19 rfl ?_
    try simp only [AP]
    refine HT 20 rfl ?_
    try simp only [AP]
    refine HT 21 rfl ?_
    try simp only [AP]
    refine HR 22 rfl fun K hK => ?_
    go_simp
    refine (l2Limit k hnv hna).mono ?_
    rintro e w1 ⟨rfl, hn1⟩
    have N1 := N0d.trans hn1
    have z1 := hn1.size
    have bA_1 := heap_new hn1 bA_0d
    have bB_1 := heap_new hn1 bB_0d
    obtain ⟨bA_1_c0, bA_1_c1, bA_1_c2⟩ := cells3 bA_1
    obtain ⟨bB_1_c0, bB_1_c1, bB_1_c2⟩ := cells3 bB_1
    go_simp
    refine hK.out _ _ ?_ (fun hHeld2 => ?_)
    · exact ⟨bA_1_c0, bA_1_c1, bA_1_c2, bB_1_c0, bB_1_c1, bB_1_c2⟩
    clear hK K hHeld
    have hHeld := hHeld2
    clear hHeld2
    try simp only [AP]
    refine HT 23 rfl ?_
    try simp only [AP]
    refine HT 24 rfl ?_
    try simp only [AP]
    refine wpAnyH_done (by kernel_rfl) ?_ _
    go_wp2
    go_ret
    exact ⟨retB D.out.symm, N1⟩
  have g3b : v < limit nv na k := by omega
  have V := Lib.hid (show shp nv na (.node k v l) d.toNat = (shps nv na l (d.toNat - 1) && (!(k == 3) || atom0 l)) by
    have e1 : decide ((l.length : Int) = arity k) = true := by rw [decide_eq_true_eq]; exact G1.out
    have e2 : decide (0 ≤ v) = true := by rw [decide_eq_true_eq]; exact g2b
    have e3 : decide (v < limit nv na k) = true := by rw [decide_eq_true_eq]; exact g3b
    rw [U.out, E0.out, e1, e2, e3]; simp)
  have g3c : decide (limit nv na k ≤ v) = false := by rw [decide_eq_false_iff_not]; omega
  clear g3 U
  go_wp2_with fail
  refine wp_region_held_drew (S := fun w' => w'.cell? ⟨w.heap.size, 0, none⟩ = some (.slice a nv c) ∧ w'.cell? ⟨w.heap.size, 1, none⟩ = some (.slice a' na c') ∧ w'.cell? ⟨w.heap.size, 2, none⟩ = some (tc) ∧ w'.cell? ⟨w.heap.size + 1, 0, none⟩ = some (.int .i64 k) ∧ w'.cell? ⟨w.heap.size + 1, 1, none⟩ = some (.int .i64 v) ∧ w'.cell? ⟨w.heap.size + 1, 2, none⟩ = some (.slice a2 l.length c2)) (by kernel_rfl) ?_ (fun hHeld => ?_)
  · exact ⟨bA_0_c0, bA_0_c1, bA_0_c2, bB_0_c0, bB_0_c1, bB_0_c2⟩
  refine HT 0 rfl ?_
  try simp only [AP]
  refine HT 1 rfl ?_
  try simp only [AP]
  refine HT 2 rfl ?_
  try simp only [AP]
  refine HT 3 rfl ?_
  try simp only [AP]
  refine HT 4 rfl ?_
  try simp only [AP]
  refine HT 5 rfl ?_
  try simp only [AP]
  refine HT 6 rfl ?_
  try simp only [AP]
  refine HT 7 rfl ?_
  try simp only [AP]
  refine HR 8 rfl fun K hK => ?_
  go_simp
  refine (l2Arity k).mono ?_
  rintro e w' ⟨rfl, rfl⟩
  go_simp
  refine hK.out _ _ ?_ (fun hHeld2 => ?_)
  · exact ⟨bA_0_c0, bA_0_c1, bA_0_c2, bB_0_c0, bB_0_c1, bB_0_c2⟩
  clear hK K hHeld
  have hHeld := hHeld2
  clear hHeld2
  try simp only [AP]
  refine HT 9 rfl ?_
  try simp only [AP]
  refine HT 10 rfl ?_
  try simp only [AP]
  refine HT 11 rfl ?_
  try simp only [AP]
  refine HT 12 rfl ?_
  try simp only [AP]
  refine HT 13 rfl ?_
  try simp only [AP]
  refine HT 14 rfl ?_
  try simp only [AP]
  refine HT 15 rfl ?_
  try simp only [AP]
  refine HT 16 rfl ?_
  try simp only [AP]
  refine HT 17 rfl ?_
  try simp only [AP]
  refine HT 18 rfl ?_
  try simp only [AP]
  refine HT 19 rfl ?_
  try simp only [AP]
  refine HT 20 rfl ?_
  try simp only [AP]
  refine HT 21 rfl ?_
  try simp only [AP]
  refine HR 22 rfl fun K hK => ?_
  go_simp
  refine (l2Limit k hnv hna).mono ?_
  rintro e w1 ⟨rfl, hn1⟩
  have N1 := N0d.trans hn1
  have z1 := hn1.size
  have bA_1 := heap_new hn1 bA_0d
  have bB_1 := heap_new hn1 bB_0d
  obtain ⟨bA_1_c0, bA_1_c1, bA_1_c2⟩ := cells3 bA_1
  obtain ⟨bB_1_c0, bB_1_c1, bB_1_c2⟩ := cells3 bB_1
  go_simp
  refine hK.out _ _ ?_ (fun hHeld2 => ?_)
  · exact ⟨bA_1_c0, bA_1_c1, bA_1_c2, bB_1_c0, bB_1_c1, bB_1_c2⟩
  clear hK K hHeld
  have hHeld := hHeld2
  clear hHeld2
  try simp only [AP]
  refine HT 23 rfl ?_
  try simp only [AP]
  refine HT 24 rfl ?_
  try simp only [AP]
  refine wpAnyH_done (by kernel_rfl) ?_ _
  clear g3b g3c g0c g2c
  go_wp2_with fail
  go_loopw [7] (fun i wr => ∃ j : Nat, j ≤ l.length ∧ i = .int .i64 j ∧ New w1 wr ∧ Hid (shps nv na (l.take j) (d.toNat - 1) = true)) (fun i _ => l.length - (intOf i).toNat)
  case atStart => exact ⟨0, Nat.zero_le _, rfl, Kp.refl _ _, Lib.hid (by simp [shps])⟩
  case round =>
    obtain ⟨j, hj, rfl, hNA, hG⟩ := hrel
    have N3 := N1.trans hNA
    have bA3 := heap_new hNA bA_1
    have bB3 := heap_new hNA bB_1
    obtain ⟨cA0, cA1, cA2⟩ := cells3 bA3
    obtain ⟨cB0, cB1, cB2⟩ := cells3 bB3
    by_cases hlt : j < l.length
    · obtain ⟨b, o, s, rfl, hb1, hb2, c0, c1, c2, hs1⟩ := (hs.new h1 N3).at j hlt
      have k1 := hs1.new (by have := N3.size; omega) ((Kp.refl _ wr).drew)
      have hsz : Ex.sizes l[j].kids < n := by have := Ex.kids_get l j hlt; omega
      have hB := Lib.hid (shps_bad nv na l (d.toNat - 1) j hlt)
      have hT := Lib.hid (shps_take nv na (d.toNat - 1) hlt)
      have hE := Lib.hid (show Ex.node l[j].kind l[j].val l[j].kids = l[j] by cases l[j]; rfl)
      have hd1 : IntKind.i64.wrap (d - 1) = d - 1 := IntWalk.i64_in _ (by omega)
      have hz : hi ≤ wr.drew.heap.size := by have := N3.size; simp; omega
      clear hs hs1
      generalize l[j] = x at *
      go_wp2_with fail
      set_option maxRecDepth 100000 in go_still_tail 8, (by kernel_rfl)
      change wpList _ _ _ _ _ wr.drew
      go_wp2_with fail
      refine (HH.out _ lo hi _ _ _ _ _ _ _ _ _ _ _ (d - 1) hsz k1 hz (by omega) (by omega) hnv hna).mono ?_
      rintro r w3 ⟨rfl, hn3⟩
      have N4 := N3.drew.trans hn3
      have hNA2 := hNA.drew.trans hn3
      rw [show (d - 1).toNat = d.toNat - 1 by omega, hE.out]
      clear hd1
      cases hp : shp nv na x (d.toNat - 1)
      · have hfin := Lib.hid (show shp nv na (.node k v l) d.toNat = false by rw [V.out, hB.out hp]; rfl)
        clear hB hT hG hp HH
        go_wp2
        go_ret
        exact ⟨retB hfin.out.symm, N4⟩
      · have hG2 := Lib.hid (show shps nv na (l.take (j + 1)) (d.toNat - 1) = true by rw [hT.out, hG.out, hp]; rfl)
        clear hB hT hG hp
        go_wp2
        go_roundw
        case rel => exact ⟨j + 1, by omega, by go_num, hNA2, hG2⟩
        case measure => simp [intOf]; omega
    · have E := Lib.hid (show shp nv na (.node k v l) d.toNat = (!(k == 3) || atom0 l) by
        have h := hG.out
        rw [List.take_of_length_le (by omega)] at h
        rw [V.out, h]; rfl)
      have hge : l.length ≤ j := by omega
      clear hG V
      by_cases hk3 : k = 3
      · have hlen : 0 < l.length := by have := G1.out; rw [hk3] at this; simp [arity] at this; omega
        obtain ⟨b, o, s, rfl, hb1, hb2, c0, c1, c2, hs1⟩ := (hs.new h1 N3).at 0 hlen
        have E2 := Lib.hid (show shp nv na (.node k v l) d.toNat = (l[0].kind == 1 || l[0].kind == 2) by
          rw [E.out, hk3]
          cases l with
          | nil => simp at hlen
          | cons x xs => rfl)
        have e3 : (k != 3) = false := by simp [hk3]
        rw [Nat.zero_mul, Nat.add_zero] at c0 c1 c2
        clear hs hs1 hk3 E HH
        generalize l[0] = x at *
        go_wp2_with fail
        refine (l2Atom _ _ _).mono ?_
        rintro r w3 ⟨rfl, hn3⟩
        go_wp2
        go_ret
        exact ⟨retB E2.out.symm, N3.trans hn3⟩
      · have e3 : (k != 3) = true := by simp [hk3]
        have D := Lib.hid (show shp nv na (.node k v l) d.toNat = true by rw [E.out]; simp [hk3])
        clear hk3 E HH hs
        go_wp2
        go_ret
        exact ⟨retB D.out.symm, N3⟩
theorem does : ∀ n, Does n
  | 0 => fun w lo hi a a' nv c na c' tc k v s l d hl => absurd hl (Nat.not_lt_zero _)
  | n + 1 => fun w lo hi a a' nv c na c' tc k v s l d hl hs h1 h2 h3 h4 h5 => shape_step n (does n) w lo hi a a' nv c na c' tc k v s l d (Nat.le_of_lt_succ hl) hs h1 h2 h3 h4 h5
def DoesC (n : Nat) : Prop := ∀ (w : World) (lo hi : Nat) (k v : Int) (s : Value) (l : List Ex) (d : Int), Ex.sizes l < n → Ex.sizes l + 1 ≤ 2097152 → KidsR w lo hi s l → hi ≤ w.heap.size → 0 ≤ d → d ≤ 10 →
  Calls Tryd.prog 65 #[.agg #[.int .i64 k, .int .i64 v, s], .int .i64 d] w fun e w' => e = .returned (.int .i64 (cnt (.node k v l) d.toNat)) ∧ New w w'
set_option maxHeartbeats 2000000 in
theorem count_step (n : Nat) (H : DoesC n) (w : World) (lo hi : Nat) (k v : Int) (s : Value) (l : List Ex) (d : Int) (hl : Ex.sizes l ≤ n) (hm : Ex.sizes l + 1 ≤ 2097152) (hs : KidsR w lo hi s l) (h1 : hi ≤ w.heap.size) (hd0 : 0 ≤ d) (hd10 : d ≤ 10) :
    Calls Tryd.prog 65 #[.agg #[.int .i64 k, .int .i64 v, s], .int .i64 d] w fun e w' => e = .returned (.int .i64 (cnt (.node k v l) d.toNat)) ∧ New w w' := by
  obtain ⟨a2, c2, rfl, hl1⟩ := hs.len
  have HH := Lib.hid H; clear H
  go_enter Tryd.func65, Tryd.ntmps65
  go_wp2_with fail
  have N0 : New w (w.alloc (.cells #[.int .i64 k, .int .i64 v, .slice a2 l.length c2] 45)) := ((Kp.refl _ _).alloc _)
  have bB_0 : (w.alloc (.cells #[.int .i64 k, .int .i64 v, .slice a2 l.length c2] 45)).heap[w.heap.size]? = some (.cells #[.int .i64 k, .int .i64 v, .slice a2 l.length c2] 45) := alloc_heap _ _
  have z0 : w.heap.size < (w.alloc (.cells #[.int .i64 k, .int .i64 v, .slice a2 l.length c2] 45)).heap.size := by simp
  generalize (w.alloc (.cells #[.int .i64 k, .int .i64 v, .slice a2 l.length c2] 45)) = w0 at *
  obtain ⟨bB_0_c0, bB_0_c1, bB_0_c2⟩ := cells3 bB_0
  have U := Lib.hid (show cnt (.node k v l) d.toNat = 1 + (if 0 < d.toNat then cnts l (d.toNat - 1) else 0) by rw [cnt])
  have hlen := Ex.length_sizes l
  by_cases g0 : 0 < d
  rotate_left
  · have D := Lib.hid (show (cnt (.node k v l) d.toNat : Int) = 1 by rw [U.out, if_neg (by omega)]; rfl)
    have e0 : decide (0 < d) = false := by rw [decide_eq_false_iff_not]; omega
    have g0b : d ≤ 0 := by omega
    clear g0 HH
    go_wp2_with fail
    go_loopw [5, 6] (fun q i wr => q = .int .i64 1 ∧ i = .int .i64 0 ∧ wr = w0) (fun _ i _ => 0)
    case atStart => exact ⟨rfl, rfl, rfl⟩
    case round =>
      obtain ⟨rfl, rfl, rfl⟩ := hrel
      by_cases hl0 : 0 < l.length
      · go_wp2
        go_ret
        exact ⟨retI D.out.symm, N0⟩
      · have hl00 : l.length ≤ 0 := by omega
        go_wp2
        go_ret
        exact ⟨retI D.out.symm, N0⟩
  have V := Lib.hid (show cnt (.node k v l) d.toNat = 1 + cnts l (d.toNat - 1) by rw [U.out, if_pos (by omega)])
  clear U
  go_wp2_with fail
  go_loopw [5, 6] (fun q i wr => ∃ (j m : Nat), j ≤ l.length ∧ i = .int .i64 j ∧ q = .int .i64 m ∧ m ≤ 2097153 ∧ New w0 wr ∧ Hid (m = 1 + cnts (l.take j) (d.toNat - 1))) (fun _ i _ => l.length - (intOf i).toNat)
  case atStart => exact ⟨0, 1, Nat.zero_le _, rfl, rfl, by omega, Kp.refl _ _, Lib.hid (by simp [cnts])⟩
  case round =>
    obtain ⟨j, m, hj, rfl, rfl, hm1, hNA, hG⟩ := hrel
    have N3 := N0.trans hNA
    have bB3 := heap_new hNA bB_0
    obtain ⟨cB0, cB1, cB2⟩ := cells3 bB3
    by_cases hlt : j < l.length
    · obtain ⟨b, o, s, rfl, hb1, hb2, c0, c1, c2, hs1⟩ := (hs.new h1 N3).at j hlt
      have hsz : Ex.sizes l[j].kids < n := by have := Ex.kids_get l j hlt; omega
      have hsm : Ex.sizes l[j].kids + 1 ≤ 2097152 := by have := Ex.kids_get l j hlt; omega
      have hT := Lib.hid (cnts_take (d.toNat - 1) hlt)
      have hle := Lib.hid (show cnts (l.take (j + 1)) (d.toNat - 1) ≤ 2097152 by
        have e1 := cnts_le (l.take (j + 1)) (d.toNat - 1)
        have e2 := Ex.sizes_take_drop l (j + 1)
        omega)
      have hE := Lib.hid (show Ex.node l[j].kind l[j].val l[j].kids = l[j] by cases l[j]; rfl)
      have hd1 : IntKind.i64.wrap (d - 1) = d - 1 := IntWalk.i64_in _ (by omega)
      have hz : hi ≤ wr.heap.size := by have := N3.size; omega
      clear hs
      generalize l[j] = x at *
      go_wp2_with fail
      refine (HH.out _ lo hi _ _ _ _ (d - 1) hsz hsm hs1 hz (by omega) (by omega)).mono ?_
      rintro r w3 ⟨rfl, hn3⟩
      have N4 := N3.trans hn3
      have hNA2 := hNA.trans hn3
      rw [show (d - 1).toNat = d.toNat - 1 by omega, hE.out]
      have hq1 : m + cnt x (d.toNat - 1) ≤ 2097153 := by have := hG.out; have := hT.out; have := hle.out; omega
      have hG2 := Lib.hid (show m + cnt x (d.toNat - 1) = 1 + cnts (l.take (j + 1)) (d.toNat - 1) by have := hG.out; have := hT.out; omega)
      clear hd1 hT hG hle
      generalize cnt x (d.toNat - 1) = y at *
      go_wp2
      go_roundw
      case rel => exact ⟨j + 1, m + y, by omega, by go_num, by go_num, hq1, hNA2, hG2⟩
      case measure => simp [intOf]; omega
    · have D := Lib.hid (show (cnt (.node k v l) d.toNat : Int) = m by
        have h := hG.out
        rw [List.take_of_length_le (by omega)] at h
        rw [V.out, h])
      have hge : l.length ≤ j := by omega
      clear hG V HH hs
      go_wp2
      go_ret
      exact ⟨retI D.out.symm, N3⟩
theorem doesC : ∀ n, DoesC n
  | 0 => fun w lo hi k v s l d hl => absurd hl (Nat.not_lt_zero _)
  | n + 1 => fun w lo hi k v s l d hl hm hs h1 h2 h3 => count_step n (doesC n) w lo hi k v s l d (Nat.le_of_lt_succ hl) hm hs h1 h2 h3
set_option maxHeartbeats 1000000 in
theorem l2Right {w : World} {lo hi : Nat} {a a' : Option Addr} {nv c na c' : Nat} {tc : Value} {k v : Int} {s : Value} {l : List Ex} (hm : Ex.sizes l + 1 ≤ 2097152) (hs : KidsR w lo hi s l) (h1 : hi ≤ w.heap.size) (hnv : nv ≤ 9223372036854775807) (hna : na ≤ 9223372036854775807) :
    Calls Tryd.prog 49 #[.agg #[.slice a nv c, .slice a' na c', tc], .agg #[.int .i64 k, .int .i64 v, s]] w fun e w' => e = .returned (.bool (right nv na (.node k v l))) ∧ New w w' := by
  go_enter Tryd.func49, Tryd.ntmps49
  go_wp2_with fail
  have N0 : New w ((w.alloc (.cells #[.slice a nv c, .slice a' na c', tc] 41)).alloc (.cells #[.int .i64 k, .int .i64 v, s] 45)) := (((Kp.refl _ _).alloc _).alloc _)
  have bA_0 : ((w.alloc (.cells #[.slice a nv c, .slice a' na c', tc] 41)).alloc (.cells #[.int .i64 k, .int .i64 v, s] 45)).heap[w.heap.size]? = some (.cells #[.slice a nv c, .slice a' na c', tc] 41) := heap_old (alloc_heap _ _)
  have bB_0 : ((w.alloc (.cells #[.slice a nv c, .slice a' na c', tc] 41)).alloc (.cells #[.int .i64 k, .int .i64 v, s] 45)).heap[w.heap.size + 1]? = some (.cells #[.int .i64 k, .int .i64 v, s] 45) := heap_at (by simp)
  have z0 : w.heap.size + 1 < ((w.alloc (.cells #[.slice a nv c, .slice a' na c', tc] 41)).alloc (.cells #[.int .i64 k, .int .i64 v, s] 45)).heap.size := by simp
  generalize ((w.alloc (.cells #[.slice a nv c, .slice a' na c', tc] 41)).alloc (.cells #[.int .i64 k, .int .i64 v, s] 45)) = w0 at *
  obtain ⟨bA_0_c0, bA_0_c1, bA_0_c2⟩ := cells3 bA_0
  obtain ⟨bB_0_c0, bB_0_c1, bB_0_c2⟩ := cells3 bB_0
  refine (does _ _ lo hi _ _ _ _ _ _ _ _ _ _ _ 5 (Nat.lt_succ_self _) (hs.new h1 N0) (by omega) (by omega) (by omega) hnv hna).mono ?_
  rintro e w1 ⟨rfl, hn1⟩
  have z1 := hn1.size
  have N1 : New w w1 := N0.trans hn1
  have bA_1 := heap_new hn1 bA_0
  have bB_1 := heap_new hn1 bB_0
  clear bA_0_c0 bA_0_c1 bA_0_c2 bB_0_c0 bB_0_c1 bB_0_c2
  clear bA_0 bB_0 hn1
  obtain ⟨bA_1_c0, bA_1_c1, bA_1_c2⟩ := cells3 bA_1
  obtain ⟨bB_1_c0, bB_1_c1, bB_1_c2⟩ := cells3 bB_1
  rw [show (5 : Int).toNat = 5 from rfl]
  have U := Lib.hid (show right nv na (.node k v l) = (shp nv na (.node k v l) 5 && decide (cnt (.node k v l) 5 ≤ 15)) from rfl)
  cases hp : shp nv na (.node k v l) 5
  · have D := Lib.hid (show right nv na (.node k v l) = false by rw [U.out, hp]; rfl)
    clear U hp
    go_wp2
    go_ret
    exact ⟨retB D.out.symm, N1⟩
  have V := Lib.hid (show right nv na (.node k v l) = decide ((cnt (.node k v l) 5 : Int) ≤ 15) by
    rw [U.out, hp]; rw [Bool.eq_iff_iff]; simp; omega)
  clear U hp
  go_wp2_with fail
  refine (doesC _ _ lo hi _ _ _ _ 5 (Nat.lt_succ_self _) hm (hs.new h1 N1) (by omega) (by omega) (by omega)).mono ?_
  rintro e w2 ⟨rfl, hn2⟩
  have z2 := hn2.size
  have N2 : New w w2 := N1.trans hn2
  have bA_2 := heap_new hn2 bA_1
  have bB_2 := heap_new hn2 bB_1
  clear bA_1_c0 bA_1_c1 bA_1_c2 bB_1_c0 bB_1_c1 bB_1_c2
  clear bA_1 bB_1 hn2
  rw [show (5 : Int).toNat = 5 from rfl]
  generalize cnt (.node k v l) 5 = m at *
  go_wp2
  go_ret
  exact ⟨retB V.out.symm, N2⟩
end Go.Proofs.YtckikiaockkmbaaDoor.ShapeV
