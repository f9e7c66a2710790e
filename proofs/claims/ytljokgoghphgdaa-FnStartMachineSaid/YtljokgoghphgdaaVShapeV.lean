/- l2Arity, l2Limit, l2Atom, l2Shape, l2Count, l2Right of spec. No conditions beyond the sizes. -/
import Derived.Test.YtljokgoghphgdaaVP2
import Derived.StillTailTactics
import Derived.Deep.QuietTactic
import Derived.BigQuiet
import Derived.Deep.RegionHeld3
namespace Go.Proofs.Ytljokgoghphgdaa.ShapeV
open Go.RowKit Kit Val
set_option linter.unusedVariables false
set_option maxHeartbeats 1000000 in
theorem l2Arity {w : World} (k : Int) : Calls Try.prog 145 #[.int .i64 k] w fun e w' => e = .returned (.int .i64 (arity k)) ∧ w = w' := by
  by_cases h1 : k = 1
  · subst h1
    have D := Lib.hid (show arity 1 = 0 from rfl)
    go_enter Try.func145, Try.ntmps145
    go_wp2
    go_ret
    exact ⟨retI D.out.symm, rfl⟩
  by_cases h2 : k = 2
  · subst h2
    clear h1
    have D := Lib.hid (show arity 2 = 0 from rfl)
    go_enter Try.func145, Try.ntmps145
    go_wp2
    go_ret
    exact ⟨retI D.out.symm, rfl⟩
  by_cases h3 : k = 3
  · subst h3
    clear h1 h2
    have D := Lib.hid (show arity 3 = 1 from rfl)
    go_enter Try.func145, Try.ntmps145
    go_wp2
    go_ret
    exact ⟨retI D.out.symm, rfl⟩
  by_cases h4 : 4 ≤ k
  rotate_left
  · have e1 : (k == 1) = false := by simp [h1]
    have e2 : (k == 2) = false := by simp [h2]
    have e3 : (k == 3) = false := by simp [h3]
    have D := Lib.hid (show arity k = -1 by unfold arity; repeat (first | rw [if_neg (by omega)] | rw [if_pos (by omega)]))
    have e11 : (k == 11) = false := by simp; omega
    clear h1 h2 h3
    go_enter Try.func145, Try.ntmps145
    go_wp2
    go_ret
    exact ⟨retI D.out.symm, rfl⟩
  by_cases h10 : k ≤ 10
  · have e1 : (k == 1) = false := by simp [h1]
    have e2 : (k == 2) = false := by simp [h2]
    have e3 : (k == 3) = false := by simp [h3]
    have D := Lib.hid (show arity k = 2 by unfold arity; repeat (first | rw [if_neg (by omega)] | rw [if_pos (by omega)]))
    clear h1 h2 h3
    go_enter Try.func145, Try.ntmps145
    go_wp2
    go_ret
    exact ⟨retI D.out.symm, rfl⟩
  by_cases h11 : k = 11
  · subst h11
    have D := Lib.hid (show arity 11 = 3 from rfl)
    clear h1 h2 h3 h4 h10
    go_enter Try.func145, Try.ntmps145
    go_wp2
    go_ret
    exact ⟨retI D.out.symm, rfl⟩
  have e1 : (k == 1) = false := by simp [h1]
  have e2 : (k == 2) = false := by simp [h2]
  have e3 : (k == 3) = false := by simp [h3]
  have D := Lib.hid (show arity k = -1 by unfold arity; repeat (first | rw [if_neg (by omega)] | rw [if_pos (by omega)]))
  have e11 : (k == 11) = false := by simp [h11]
  clear h1 h2 h3
  go_enter Try.func145, Try.ntmps145
  go_wp2
  go_ret
  exact ⟨retI D.out.symm, rfl⟩
set_option maxHeartbeats 1000000 in
theorem l2Limit {w : World} {a a' : Option Addr} {nv c na c' : Nat} {tc : Value} (k : Int) (hv : nv ≤ 9223372036854775807) (ha : na ≤ 9223372036854775807) : Calls Try.prog 149 #[.agg #[.slice a nv c, .slice a' na c', tc], .int .i64 k] w fun e w' => e = .returned (.int .i64 (limit nv na k)) ∧ New w w' := by
  by_cases h1 : k = 1
  · subst h1
    have D := Lib.hid (show limit nv na 1 = 256 from rfl)
    go_enter Try.func149, Try.ntmps149
    go_wp2
    go_ret
    exact ⟨retI D.out.symm, (Kp.refl _ _).alloc _⟩
  by_cases h2 : k = 2
  · subst h2
    have D := Lib.hid (show limit nv na 2 = nv from rfl)
    clear h1
    go_enter Try.func149, Try.ntmps149
    go_wp2
    go_ret
    exact ⟨retI D.out.symm, (Kp.refl _ _).alloc _⟩
  by_cases h3 : k = 3
  · subst h3
    have D := Lib.hid (show limit nv na 3 = na from rfl)
    clear h1 h2
    go_enter Try.func149, Try.ntmps149
    go_wp2
    go_ret
    exact ⟨retI D.out.symm, (Kp.refl _ _).alloc _⟩
  have e1 : (k == 1) = false := by simp [h1]
  have e2 : (k == 2) = false := by simp [h2]
  have e3 : (k == 3) = false := by simp [h3]
  have D := Lib.hid (show limit nv na k = 1 by unfold limit; rw [if_neg h1, if_neg h2, if_neg h3])
  clear h1 h2 h3
  go_enter Try.func149, Try.ntmps149
  go_wp2
  go_ret
  exact ⟨retI D.out.symm, (Kp.refl _ _).alloc _⟩
set_option maxHeartbeats 1000000 in
theorem l2Atom {w : World} (k v : Int) (s : Value) : Calls Try.prog 144 #[.agg #[.int .i64 k, .int .i64 v, s]] w fun e w' => e = .returned (.bool (k == 1 || k == 2)) ∧ New w w' := by
  cases h1 : (k == 1)
  · go_enter Try.func144, Try.ntmps144
    go_wp2
    go_ret
    exact ⟨retB (by simp), (Kp.refl _ _).alloc _⟩
  · go_enter Try.func144, Try.ntmps144
    go_wp2
    go_ret
    exact ⟨retB (by simp), (Kp.refl _ _).alloc _⟩
def Does (n : Nat) : Prop := ∀ (w : World) (lo hi : Nat) (a a' : Option Addr) (nv c na c' : Nat) (tc : Value) (k v : Int) (s : Value) (l : List Ex) (d : Int), Ex.sizes l < n → KidsR w lo hi s l → hi ≤ w.heap.size → 0 ≤ d → d ≤ 10 → nv ≤ 9223372036854775807 → na ≤ 9223372036854775807 →
  Calls Try.prog 146 #[.agg #[.slice a nv c, .slice a' na c', tc], .agg #[.int .i64 k, .int .i64 v, s], .int .i64 d] w fun e w' => e = .returned (.bool (shp nv na (.node k v l) d.toNat)) ∧ New w w'
set_option maxHeartbeats 8000000 in
theorem shape_step (n : Nat) (H : Does n) (w : World) (lo hi : Nat) (a a' : Option Addr) (nv c na c' : Nat) (tc : Value) (k v : Int) (s : Value) (l : List Ex) (d : Int) (hl : Ex.sizes l ≤ n) (hs : KidsR w lo hi s l) (h1 : hi ≤ w.heap.size) (hd0 : 0 ≤ d) (hd10 : d ≤ 10) (hnv : nv ≤ 9223372036854775807) (hna : na ≤ 9223372036854775807) :
    Calls Try.prog 146 #[.agg #[.slice a nv c, .slice a' na c', tc], .agg #[.int .i64 k, .int .i64 v, s], .int .i64 d] w fun e w' => e = .returned (.bool (shp nv na (.node k v l) d.toNat)) ∧ New w w' := by
  obtain ⟨a2, c2, rfl, hl1⟩ := hs.len
  have HH := Lib.hid H; clear H
  go_enter Try.func146, Try.ntmps146
  go_wp2_with fail
  have N0 : New w ((w.alloc (.cells #[.slice a nv c, .slice a' na c', tc] 90)).alloc (.cells #[.int .i64 k, .int .i64 v, .slice a2 l.length c2] 147)) := (((Kp.refl _ _).alloc _).alloc _)
  have bA_0 : ((w.alloc (.cells #[.slice a nv c, .slice a' na c', tc] 90)).alloc (.cells #[.int .i64 k, .int .i64 v, .slice a2 l.length c2] 147)).heap[w.heap.size]? = some (.cells #[.slice a nv c, .slice a' na c', tc] 90) := heap_old (alloc_heap _ _)
  have bB_0 : ((w.alloc (.cells #[.slice a nv c, .slice a' na c', tc] 90)).alloc (.cells #[.int .i64 k, .int .i64 v, .slice a2 l.length c2] 147)).heap[w.heap.size + 1]? = some (.cells #[.int .i64 k, .int .i64 v, .slice a2 l.length c2] 147) := heap_at (by simp)
  have z0 : w.heap.size + 1 < ((w.alloc (.cells #[.slice a nv c, .slice a' na c', tc] 90)).alloc (.cells #[.int .i64 k, .int .i64 v, .slice a2 l.length c2] 147)).heap.size := by simp
  generalize ((w.alloc (.cells #[.slice a nv c, .slice a' na c', tc] 90)).alloc (.cells #[.int .i64 k, .int .i64 v, .slice a2 l.length c2] 147)) = w0 at *
  have bA_0_c0 := cell_of_heap bA_0 0
  have bA_0_c1 := cell_of_heap bA_0 1
  have bA_0_c2 := cell_of_heap bA_0 2
  have bB_0_c0 := cell_of_heap bB_0 0
  have bB_0_c1 := cell_of_heap bB_0 1
  have bB_0_c2 := cell_of_heap bB_0 2
  have N0d : New w w0.drew := N0.drew
  have z0d : w.heap.size + 1 < w0.drew.heap.size := by simpa using z0
  have bA_0d : w0.drew.heap[w.heap.size]? = some (.cells #[.slice a nv c, .slice a' na c', tc] 90) := bA_0
  have bB_0d : w0.drew.heap[w.heap.size + 1]? = some (.cells #[.int .i64 k, .int .i64 v, .slice a2 l.length c2] 147) := bB_0
  have U := Lib.hid (show shp nv na (.node k v l) d.toNat = (decide (1 ≤ d.toNat) && decide ((l.length : Int) = arity k) && decide (0 ≤ v) && decide (v < limit nv na k) && shps nv na l (d.toNat - 1) && (!(k == 3) || atom0 l)) by rw [shp])
  by_cases g0 : d < 1
  · have D := Lib.hid (show shp nv na (.node k v l) d.toNat = false by
      have e : decide (1 ≤ d.toNat) = false := by rw [decide_eq_false_iff_not]; omega
      rw [U.out, e]; rfl)
    go_wp2_with fail
    refine wp_region_held_drew (S := fun w' => w'.cell? ⟨w.heap.size, 0, none⟩ = some (.slice a nv c) ∧ w'.cell? ⟨w.heap.size, 1, none⟩ = some (.slice a' na c') ∧ w'.cell? ⟨w.heap.size, 2, none⟩ = some (tc) ∧ w'.cell? ⟨w.heap.size + 1, 0, none⟩ = some (.int .i64 k) ∧ w'.cell? ⟨w.heap.size + 1, 1, none⟩ = some (.int .i64 v) ∧ w'.cell? ⟨w.heap.size + 1, 2, none⟩ = some (.slice a2 l.length c2)) (by kernel_rfl) ?_ (fun hHeld => ?_)
    · exact ⟨bA_0_c0, bA_0_c1, bA_0_c2, bB_0_c0, bB_0_c1, bB_0_c2⟩
    refine wpAnyH_take (i := 0) (v := ?vbq0) rfl (by kernel_rfl) (by kernel_rfl) (by kernel_rfl) (fun _ _ _ h => h) (Or.inl ⟨by kernel_rfl, ?ybq0⟩) (by assumption) ?rbq0
    case ybq0 =>
      intro w hSw
      try dsimp only at hSw
      go_simp
      try with_reducible rfl
    try simp only [Act.put, List.getElem_toArray, List.getElem_cons_zero, List.setIfInBounds_toArray, List.set_cons_zero, List.set_cons_succ]
    refine wpAnyH_take (i := 1) (v := ?vbq1) rfl (by kernel_rfl) (by kernel_rfl) (by kernel_rfl) (fun _ _ _ h => h) (Or.inl ⟨by kernel_rfl, ?ybq1⟩) (by assumption) ?rbq1
    case ybq1 =>
      intro w hSw
      try dsimp only at hSw
      go_simp
      try with_reducible rfl
    try simp only [Act.put, List.getElem_toArray, List.getElem_cons_zero, List.getElem_cons_succ, List.setIfInBounds_toArray, List.set_cons_zero, List.set_cons_succ]
    refine wpAnyH_take (i := 2) (v := ?vbq2) rfl (by kernel_rfl) (by kernel_rfl) (by kernel_rfl) (fun _ _ _ h => h) (Or.inl ⟨by kernel_rfl, ?ybq2⟩) (by assumption) ?rbq2
    case ybq2 =>
      intro w hSw
      try dsimp only at hSw
      go_simp
      try with_reducible rfl
    try simp only [Act.put, List.getElem_toArray, List.getElem_cons_zero, List.getElem_cons_succ, List.setIfInBounds_toArray, List.set_cons_zero, List.set_cons_succ]
    refine wpAnyH_take (i := 3) (v := undef) rfl (by kernel_rfl) (by kernel_rfl) (by kernel_rfl) (fun _ _ _ h => h) (Or.inr ⟨by kernel_rfl, rfl⟩) (by assumption) ?_
    try simp only [Act.put, List.getElem_toArray, List.getElem_cons_zero, List.getElem_cons_succ, List.setIfInBounds_toArray, List.set_cons_zero, List.set_cons_succ]
    refine wpAnyH_take (i := 4) (v := undef) rfl (by kernel_rfl) (by kernel_rfl) (by kernel_rfl) (fun _ _ _ h => h) (Or.inr ⟨by kernel_rfl, rfl⟩) (by assumption) ?_
    try simp only [Act.put, List.getElem_toArray, List.getElem_cons_zero, List.getElem_cons_succ, List.setIfInBounds_toArray, List.set_cons_zero, List.set_cons_succ]
    refine wpAnyH_take (i := 5) (v := undef) rfl (by kernel_rfl) (by kernel_rfl) (by kernel_rfl) (fun _ _ _ h => h) (Or.inr ⟨by kernel_rfl, rfl⟩) (by assumption) ?_
    try simp only [Act.put, List.getElem_toArray, List.getElem_cons_zero, List.getElem_cons_succ, List.setIfInBounds_toArray, List.set_cons_zero, List.set_cons_succ]
    refine wpAnyH_take (i := 6) (v := undef) rfl (by kernel_rfl) (by kernel_rfl) (by kernel_rfl) (fun _ _ _ h => h) (Or.inr ⟨by kernel_rfl, rfl⟩) (by assumption) ?_
    try simp only [Act.put, List.getElem_toArray, List.getElem_cons_zero, List.getElem_cons_succ, List.setIfInBounds_toArray, List.set_cons_zero, List.set_cons_succ]
    refine wpAnyH_take (i := 7) (v := undef) rfl (by kernel_rfl) (by kernel_rfl) (by kernel_rfl) (fun _ _ _ h => h) (Or.inr ⟨by kernel_rfl, rfl⟩) (by assumption) ?_
    try simp only [Act.put, List.getElem_toArray, List.getElem_cons_zero, List.getElem_cons_succ, List.setIfInBounds_toArray, List.set_cons_zero, List.set_cons_succ]
    refine wpAnyH_take (i := 8) (v := undef) rfl (by kernel_rfl) (by kernel_rfl) (by kernel_rfl) (fun _ _ _ h => h) (Or.inr ⟨by kernel_rfl, rfl⟩) (by assumption) ?_
    try simp only [Act.put, List.getElem_toArray, List.getElem_cons_zero, List.getElem_cons_succ, List.setIfInBounds_toArray, List.set_cons_zero, List.set_cons_succ]
    refine wpAnyH_take (i := 9) (v := undef) rfl (by kernel_rfl) (by kernel_rfl) (by kernel_rfl) (fun _ _ _ h => h) (Or.inr ⟨by kernel_rfl, rfl⟩) (by assumption) ?_
    try simp only [Act.put, List.getElem_toArray, List.getElem_cons_zero, List.getElem_cons_succ, List.setIfInBounds_toArray, List.set_cons_zero, List.set_cons_succ]
    refine wpAnyH_take (i := 10) (v := ?vbq10) rfl (by kernel_rfl) (by kernel_rfl) (by kernel_rfl) (fun _ _ _ h => h) (Or.inl ⟨by kernel_rfl, ?ybq10⟩) (by assumption) ?rbq10
    case ybq10 =>
      intro w hSw
      try dsimp only at hSw
      go_simp
      try with_reducible rfl
    try simp only [Act.put, List.getElem_toArray, List.getElem_cons_zero, List.getElem_cons_succ, List.setIfInBounds_toArray, List.set_cons_zero, List.set_cons_succ]
    refine wpAnyH_take (i := 11) (v := ?vbq11) rfl (by kernel_rfl) (by kernel_rfl) (by kernel_rfl) (fun _ _ _ h => h) (Or.inl ⟨by kernel_rfl, ?ybq11⟩) (by assumption) ?rbq11
    case ybq11 =>
      intro w hSw
      try dsimp only at hSw
      go_simp
      try with_reducible rfl
    try simp only [Act.put, List.getElem_toArray, List.getElem_cons_zero, List.getElem_cons_succ, List.setIfInBounds_toArray, List.set_cons_zero, List.set_cons_succ]
    refine wpAnyH_take (i := 12) (v := undef) rfl (by kernel_rfl) (by kernel_rfl) (by kernel_rfl) (fun _ _ _ h => h) (Or.inr ⟨by kernel_rfl, rfl⟩) (by assumption) ?_
    try simp only [Act.put, List.getElem_toArray, List.getElem_cons_zero, List.getElem_cons_succ, List.setIfInBounds_toArray, List.set_cons_zero, List.set_cons_succ]
    refine wpAnyH_take (i := 13) (v := undef) rfl (by kernel_rfl) (by kernel_rfl) (by kernel_rfl) (fun _ _ _ h => h) (Or.inr ⟨by kernel_rfl, rfl⟩) (by assumption) ?_
    try simp only [Act.put, List.getElem_toArray, List.getElem_cons_zero, List.getElem_cons_succ, List.setIfInBounds_toArray, List.set_cons_zero, List.set_cons_succ]
    refine wpAnyH_take (i := 14) (v := undef) rfl (by kernel_rfl) (by kernel_rfl) (by kernel_rfl) (fun _ _ _ h => h) (Or.inr ⟨by kernel_rfl, rfl⟩) (by assumption) ?_
    try simp only [Act.put, List.getElem_toArray, List.getElem_cons_zero, List.getElem_cons_succ, List.setIfInBounds_toArray, List.set_cons_zero, List.set_cons_succ]
    refine wpAnyH_take (i := 15) (v := ?vbq15) rfl (by kernel_rfl) (by kernel_rfl) (by kernel_rfl) (fun _ _ _ h => h) (Or.inl ⟨by kernel_rfl, ?ybq15⟩) (by assumption) ?rbq15
    case ybq15 =>
      intro w hSw
      try dsimp only at hSw
      go_simp
      try with_reducible rfl
    try simp only [Act.put, List.getElem_toArray, List.getElem_cons_zero, List.getElem_cons_succ, List.setIfInBounds_toArray, List.set_cons_zero, List.set_cons_succ]
    refine wpAnyH_take (i := 16) (v := ?vbq16) rfl (by kernel_rfl) (by kernel_rfl) (by kernel_rfl) (fun _ _ _ h => h) (Or.inl ⟨by kernel_rfl, ?ybq16⟩) (by assumption) ?rbq16
    case ybq16 =>
      intro w hSw
      try dsimp only at hSw
      go_simp
      try with_reducible rfl
    try simp only [Act.put, List.getElem_toArray, List.getElem_cons_zero, List.getElem_cons_succ, List.setIfInBounds_toArray, List.set_cons_zero, List.set_cons_succ]
    refine wpAnyH_take (i := 17) (v := undef) rfl (by kernel_rfl) (by kernel_rfl) (by kernel_rfl) (fun _ _ _ h => h) (Or.inr ⟨by kernel_rfl, rfl⟩) (by assumption) ?_
    try simp only [Act.put, List.getElem_toArray, List.getElem_cons_zero, List.getElem_cons_succ, List.setIfInBounds_toArray, List.set_cons_zero, List.set_cons_succ]
    refine wpAnyH_take (i := 18) (v := undef) rfl (by kernel_rfl) (by kernel_rfl) (by kernel_rfl) (fun _ _ _ h => h) (Or.inr ⟨by kernel_rfl, rfl⟩) (by assumption) ?_
    try simp only [Act.put, List.getElem_toArray, List.getElem_cons_zero, List.getElem_cons_succ, List.setIfInBounds_toArray, List.set_cons_zero, List.set_cons_succ]
    refine wpAnyH_take (i := 19) (v := undef) rfl (by kernel_rfl) (by kernel_rfl) (by kernel_rfl) (fun _ _ _ h => h) (Or.inr ⟨by kernel_rfl, rfl⟩) (by assumption) ?_
    try simp only [Act.put, List.getElem_toArray, List.getElem_cons_zero, List.getElem_cons_succ, List.setIfInBounds_toArray, List.set_cons_zero, List.set_cons_succ]
    refine wpAnyH_take (i := 20) (v := undef) rfl (by kernel_rfl) (by kernel_rfl) (by kernel_rfl) (fun _ _ _ h => h) (Or.inr ⟨by kernel_rfl, rfl⟩) (by assumption) ?_
    try simp only [Act.put, List.getElem_toArray, List.getElem_cons_zero, List.getElem_cons_succ, List.setIfInBounds_toArray, List.set_cons_zero, List.set_cons_succ]
    refine wpAnyH_take (i := 21) (v := undef) rfl (by kernel_rfl) (by kernel_rfl) (by kernel_rfl) (fun _ _ _ h => h) (Or.inr ⟨by kernel_rfl, rfl⟩) (by assumption) ?_
    try simp only [Act.put, List.getElem_toArray, List.getElem_cons_zero, List.getElem_cons_succ, List.setIfInBounds_toArray, List.set_cons_zero, List.set_cons_succ]
    refine wpAnyH_take (i := 22) (v := undef) rfl (by kernel_rfl) (by kernel_rfl) (by kernel_rfl) (fun _ _ _ h => h) (Or.inr ⟨by kernel_rfl, rfl⟩) (by assumption) ?_
    try simp only [Act.put, List.getElem_toArray, List.getElem_cons_zero, List.getElem_cons_succ, List.setIfInBounds_toArray, List.set_cons_zero, List.set_cons_succ]
    refine wpAnyH_take (i := 23) (v := undef) rfl (by kernel_rfl) (by kernel_rfl) (by kernel_rfl) (fun _ _ _ h => h) (Or.inr ⟨by kernel_rfl, rfl⟩) (by assumption) ?_
    try simp only [Act.put, List.getElem_toArray, List.getElem_cons_zero, List.getElem_cons_succ, List.setIfInBounds_toArray, List.set_cons_zero, List.set_cons_succ]
    refine wpAnyH_take (i := 24) (v := ?vbq24) rfl (by kernel_rfl) (by kernel_rfl) (by kernel_rfl) (fun _ _ _ h => h) (Or.inl ⟨by kernel_rfl, ?ybq24⟩) (by assumption) ?rbq24
    case ybq24 =>
      intro w hSw
      try dsimp only at hSw
      go_simp
      try with_reducible rfl
    try simp only [Act.put, List.getElem_toArray, List.getElem_cons_zero, List.getElem_cons_succ, List.setIfInBounds_toArray, List.set_cons_zero, List.set_cons_succ]
    refine wpAnyH_done (by kernel_rfl) ?_ _
    go_wp2
    go_ret
    exact ⟨retB D.out.symm, N0d⟩
  have g0b : 1 ≤ d := by omega
  have g0c : decide (d < 1) = false := by rw [decide_eq_false_iff_not]; exact g0
  have e0 : decide (1 ≤ d.toNat) = true := by rw [decide_eq_true_eq]; omega
  have E0 := Lib.hid e0
  clear e0 g0
  by_cases g1 : (l.length : Int) = arity k
  rotate_left
  · have D := Lib.hid (show shp nv na (.node k v l) d.toNat = false by
      have e : decide ((l.length : Int) = arity k) = false := by rw [decide_eq_false_iff_not]; exact g1
      rw [U.out, e]; simp)
    have e1 : ((l.length : Int) != arity k) = true := by rw [bne_iff_ne]; exact g1
    clear g1
    go_wp2_with fail
    refine wp_region_held_drew (S := fun w' => w'.cell? ⟨w.heap.size, 0, none⟩ = some (.slice a nv c) ∧ w'.cell? ⟨w.heap.size, 1, none⟩ = some (.slice a' na c') ∧ w'.cell? ⟨w.heap.size, 2, none⟩ = some (tc) ∧ w'.cell? ⟨w.heap.size + 1, 0, none⟩ = some (.int .i64 k) ∧ w'.cell? ⟨w.heap.size + 1, 1, none⟩ = some (.int .i64 v) ∧ w'.cell? ⟨w.heap.size + 1, 2, none⟩ = some (.slice a2 l.length c2)) (by kernel_rfl) ?_ (fun hHeld => ?_)
    · exact ⟨bA_0_c0, bA_0_c1, bA_0_c2, bB_0_c0, bB_0_c1, bB_0_c2⟩
    refine wpAnyH_take (i := 0) (v := ?vcq0) rfl (by kernel_rfl) (by kernel_rfl) (by kernel_rfl) (fun _ _ _ h => h) (Or.inl ⟨by kernel_rfl, ?ycq0⟩) (by assumption) ?rcq0
    case ycq0 =>
      intro w hSw
      try dsimp only at hSw
      go_simp
      try with_reducible rfl
    try simp only [Act.put, List.getElem_toArray, List.getElem_cons_zero, List.setIfInBounds_toArray, List.set_cons_zero, List.set_cons_succ]
    refine wpAnyH_take (i := 1) (v := ?vcq1) rfl (by kernel_rfl) (by kernel_rfl) (by kernel_rfl) (fun _ _ _ h => h) (Or.inl ⟨by kernel_rfl, ?ycq1⟩) (by assumption) ?rcq1
    case ycq1 =>
      intro w hSw
      try dsimp only at hSw
      go_simp
      try with_reducible rfl
    try simp only [Act.put, List.getElem_toArray, List.getElem_cons_zero, List.getElem_cons_succ, List.setIfInBounds_toArray, List.set_cons_zero, List.set_cons_succ]
    refine wpAnyH_take (i := 2) (v := ?vcq2) rfl (by kernel_rfl) (by kernel_rfl) (by kernel_rfl) (fun _ _ _ h => h) (Or.inl ⟨by kernel_rfl, ?ycq2⟩) (by assumption) ?rcq2
    case ycq2 =>
      intro w hSw
      try dsimp only at hSw
      go_simp
      try with_reducible rfl
    try simp only [Act.put, List.getElem_toArray, List.getElem_cons_zero, List.getElem_cons_succ, List.setIfInBounds_toArray, List.set_cons_zero, List.set_cons_succ]
    refine wpAnyH_take (i := 3) (v := ?vcq3) rfl (by kernel_rfl) (by kernel_rfl) (by kernel_rfl) (fun _ _ _ h => h) (Or.inl ⟨by kernel_rfl, ?ycq3⟩) (by assumption) ?rcq3
    case ycq3 =>
      intro w hSw
      try dsimp only at hSw
      go_simp
      try with_reducible rfl
    try simp only [Act.put, List.getElem_toArray, List.getElem_cons_zero, List.getElem_cons_succ, List.setIfInBounds_toArray, List.set_cons_zero, List.set_cons_succ]
    refine wpAnyH_take (i := 4) (v := ?vcq4) rfl (by kernel_rfl) (by kernel_rfl) (by kernel_rfl) (fun _ _ _ h => h) (Or.inl ⟨by kernel_rfl, ?ycq4⟩) (by assumption) ?rcq4
    case ycq4 =>
      intro w hSw
      try dsimp only at hSw
      go_simp
      try with_reducible rfl
    try simp only [Act.put, List.getElem_toArray, List.getElem_cons_zero, List.getElem_cons_succ, List.setIfInBounds_toArray, List.set_cons_zero, List.set_cons_succ]
    refine wpAnyH_take (i := 5) (v := ?vcq5) rfl (by kernel_rfl) (by kernel_rfl) (by kernel_rfl) (fun _ _ _ h => h) (Or.inl ⟨by kernel_rfl, ?ycq5⟩) (by assumption) ?rcq5
    case ycq5 =>
      intro w hSw
      try dsimp only at hSw
      go_simp
      try with_reducible rfl
    try simp only [Act.put, List.getElem_toArray, List.getElem_cons_zero, List.getElem_cons_succ, List.setIfInBounds_toArray, List.set_cons_zero, List.set_cons_succ]
    refine wpAnyH_take (i := 6) (v := ?vcq6) rfl (by kernel_rfl) (by kernel_rfl) (by kernel_rfl) (fun _ _ _ h => h) (Or.inl ⟨by kernel_rfl, ?ycq6⟩) (by assumption) ?rcq6
    case ycq6 =>
      intro w hSw
      try dsimp only at hSw
      go_simp
      try with_reducible rfl
    try simp only [Act.put, List.getElem_toArray, List.getElem_cons_zero, List.getElem_cons_succ, List.setIfInBounds_toArray, List.set_cons_zero, List.set_cons_succ]
    refine wpAnyH_take (i := 7) (v := ?vcq7) rfl (by kernel_rfl) (by kernel_rfl) (by kernel_rfl) (fun _ _ _ h => h) (Or.inl ⟨by kernel_rfl, ?ycq7⟩) (by assumption) ?rcq7
    case ycq7 =>
      intro w hSw
      try dsimp only at hSw
      go_simp
      try with_reducible rfl
    try simp only [Act.put, List.getElem_toArray, List.getElem_cons_zero, List.getElem_cons_succ, List.setIfInBounds_toArray, List.set_cons_zero, List.set_cons_succ]
    refine wpAnyH_ready (rs := [8]) (by kernel_rfl) (by simp) ?_
    refine AllReadyH.cons rfl (fun K hK => ?_) AllReadyH.nil
    go_simp
    refine (l2Arity k).mono ?_
    rintro e w' ⟨rfl, rfl⟩
    go_simp
    refine hK.out _ _ ?_ (fun hHeld2 => ?_)
    · exact ⟨bA_0_c0, bA_0_c1, bA_0_c2, bB_0_c0, bB_0_c1, bB_0_c2⟩
    clear hK K hHeld
    have hHeld := hHeld2
    clear hHeld2
    try simp only [Act.put, List.getElem_toArray, List.getElem_cons_zero, List.getElem_cons_succ, List.setIfInBounds_toArray, List.set_cons_zero, List.set_cons_succ]
    refine wpAnyH_take (i := 9) (v := ?vcq9) rfl (by kernel_rfl) (by kernel_rfl) (by kernel_rfl) (fun _ _ _ h => h) (Or.inl ⟨by kernel_rfl, ?ycq9⟩) (by assumption) ?rcq9
    case ycq9 =>
      intro w hSw
      try dsimp only at hSw
      go_simp
      try with_reducible rfl
    try simp only [Act.put, List.getElem_toArray, List.getElem_cons_zero, List.getElem_cons_succ, List.setIfInBounds_toArray, List.set_cons_zero, List.set_cons_succ]
    refine wpAnyH_take (i := 10) (v := ?vcq10) rfl (by kernel_rfl) (by kernel_rfl) (by kernel_rfl) (fun _ _ _ h => h) (Or.inl ⟨by kernel_rfl, ?ycq10⟩) (by assumption) ?rcq10
    case ycq10 =>
      intro w hSw
      try dsimp only at hSw
      go_simp
      try with_reducible rfl
    try simp only [Act.put, List.getElem_toArray, List.getElem_cons_zero, List.getElem_cons_succ, List.setIfInBounds_toArray, List.set_cons_zero, List.set_cons_succ]
    refine wpAnyH_take (i := 11) (v := ?vcq11) rfl (by kernel_rfl) (by kernel_rfl) (by kernel_rfl) (fun _ _ _ h => h) (Or.inl ⟨by kernel_rfl, ?ycq11⟩) (by assumption) ?rcq11
    case ycq11 =>
      intro w hSw
      try dsimp only at hSw
      go_simp
      try with_reducible rfl
    try simp only [Act.put, List.getElem_toArray, List.getElem_cons_zero, List.getElem_cons_succ, List.setIfInBounds_toArray, List.set_cons_zero, List.set_cons_succ]
    refine wpAnyH_take (i := 12) (v := undef) rfl (by kernel_rfl) (by kernel_rfl) (by kernel_rfl) (fun _ _ _ h => h) (Or.inr ⟨by kernel_rfl, rfl⟩) (by assumption) ?_
    try simp only [Act.put, List.getElem_toArray, List.getElem_cons_zero, List.getElem_cons_succ, List.setIfInBounds_toArray, List.set_cons_zero, List.set_cons_succ]
    refine wpAnyH_take (i := 13) (v := undef) rfl (by kernel_rfl) (by kernel_rfl) (by kernel_rfl) (fun _ _ _ h => h) (Or.inr ⟨by kernel_rfl, rfl⟩) (by assumption) ?_
    try simp only [Act.put, List.getElem_toArray, List.getElem_cons_zero, List.getElem_cons_succ, List.setIfInBounds_toArray, List.set_cons_zero, List.set_cons_succ]
    refine wpAnyH_take (i := 14) (v := undef) rfl (by kernel_rfl) (by kernel_rfl) (by kernel_rfl) (fun _ _ _ h => h) (Or.inr ⟨by kernel_rfl, rfl⟩) (by assumption) ?_
    try simp only [Act.put, List.getElem_toArray, List.getElem_cons_zero, List.getElem_cons_succ, List.setIfInBounds_toArray, List.set_cons_zero, List.set_cons_succ]
    refine wpAnyH_take (i := 15) (v := ?vcq15) rfl (by kernel_rfl) (by kernel_rfl) (by kernel_rfl) (fun _ _ _ h => h) (Or.inl ⟨by kernel_rfl, ?ycq15⟩) (by assumption) ?rcq15
    case ycq15 =>
      intro w hSw
      try dsimp only at hSw
      go_simp
      try with_reducible rfl
    try simp only [Act.put, List.getElem_toArray, List.getElem_cons_zero, List.getElem_cons_succ, List.setIfInBounds_toArray, List.set_cons_zero, List.set_cons_succ]
    refine wpAnyH_take (i := 16) (v := ?vcq16) rfl (by kernel_rfl) (by kernel_rfl) (by kernel_rfl) (fun _ _ _ h => h) (Or.inl ⟨by kernel_rfl, ?ycq16⟩) (by assumption) ?rcq16
    case ycq16 =>
      intro w hSw
      try dsimp only at hSw
      go_simp
      try with_reducible rfl
    try simp only [Act.put, List.getElem_toArray, List.getElem_cons_zero, List.getElem_cons_succ, List.setIfInBounds_toArray, List.set_cons_zero, List.set_cons_succ]
    refine wpAnyH_take (i := 17) (v := undef) rfl (by kernel_rfl) (by kernel_rfl) (by kernel_rfl) (fun _ _ _ h => h) (Or.inr ⟨by kernel_rfl, rfl⟩) (by assumption) ?_
    try simp only [Act.put, List.getElem_toArray, List.getElem_cons_zero, List.getElem_cons_succ, List.setIfInBounds_toArray, List.set_cons_zero, List.set_cons_succ]
    refine wpAnyH_take (i := 18) (v := undef) rfl (by kernel_rfl) (by kernel_rfl) (by kernel_rfl) (fun _ _ _ h => h) (Or.inr ⟨by kernel_rfl, rfl⟩) (by assumption) ?_
    try simp only [Act.put, List.getElem_toArray, List.getElem_cons_zero, List.getElem_cons_succ, List.setIfInBounds_toArray, List.set_cons_zero, List.set_cons_succ]
    refine wpAnyH_take (i := 19) (v := undef) rfl (by kernel_rfl) (by kernel_rfl) (by kernel_rfl) (fun _ _ _ h => h) (Or.inr ⟨by kernel_rfl, rfl⟩) (by assumption) ?_
    try simp only [Act.put, List.getElem_toArray, List.getElem_cons_zero, List.getElem_cons_succ, List.setIfInBounds_toArray, List.set_cons_zero, List.set_cons_succ]
    refine wpAnyH_take (i := 20) (v := undef) rfl (by kernel_rfl) (by kernel_rfl) (by kernel_rfl) (fun _ _ _ h => h) (Or.inr ⟨by kernel_rfl, rfl⟩) (by assumption) ?_
    try simp only [Act.put, List.getElem_toArray, List.getElem_cons_zero, List.getElem_cons_succ, List.setIfInBounds_toArray, List.set_cons_zero, List.set_cons_succ]
    refine wpAnyH_take (i := 21) (v := undef) rfl (by kernel_rfl) (by kernel_rfl) (by kernel_rfl) (fun _ _ _ h => h) (Or.inr ⟨by kernel_rfl, rfl⟩) (by assumption) ?_
    try simp only [Act.put, List.getElem_toArray, List.getElem_cons_zero, List.getElem_cons_succ, List.setIfInBounds_toArray, List.set_cons_zero, List.set_cons_succ]
    refine wpAnyH_take (i := 22) (v := undef) rfl (by kernel_rfl) (by kernel_rfl) (by kernel_rfl) (fun _ _ _ h => h) (Or.inr ⟨by kernel_rfl, rfl⟩) (by assumption) ?_
    try simp only [Act.put, List.getElem_toArray, List.getElem_cons_zero, List.getElem_cons_succ, List.setIfInBounds_toArray, List.set_cons_zero, List.set_cons_succ]
    refine wpAnyH_take (i := 23) (v := undef) rfl (by kernel_rfl) (by kernel_rfl) (by kernel_rfl) (fun _ _ _ h => h) (Or.inr ⟨by kernel_rfl, rfl⟩) (by assumption) ?_
    try simp only [Act.put, List.getElem_toArray, List.getElem_cons_zero, List.getElem_cons_succ, List.setIfInBounds_toArray, List.set_cons_zero, List.set_cons_succ]
    refine wpAnyH_take (i := 24) (v := ?vcq24) rfl (by kernel_rfl) (by kernel_rfl) (by kernel_rfl) (fun _ _ _ h => h) (Or.inl ⟨by kernel_rfl, ?ycq24⟩) (by assumption) ?rcq24
    case ycq24 =>
      intro w hSw
      try dsimp only at hSw
      go_simp
      try with_reducible rfl
    try simp only [Act.put, List.getElem_toArray, List.getElem_cons_zero, List.getElem_cons_succ, List.setIfInBounds_toArray, List.set_cons_zero, List.set_cons_succ]
    refine wpAnyH_done (by kernel_rfl) ?_ _
    go_wp2
    go_ret
    exact ⟨retB D.out.symm, N0d⟩
  have G1 := Lib.hid g1
  have e1 : ((l.length : Int) != arity k) = false := by rw [bne_eq_false_iff_eq]; exact g1
  have ar3 : l.length ≤ 3 := by have : arity k ≤ 3 := (by unfold arity; repeat' split <;> omega); omega
  clear g1
  by_cases g2 : v < 0
  · have D := Lib.hid (show shp nv na (.node k v l) d.toNat = false by
      have e : decide (0 ≤ v) = false := by rw [decide_eq_false_iff_not]; omega
      rw [U.out, e]; simp)
    go_wp2_with fail
    refine wp_region_held_drew (S := fun w' => w'.cell? ⟨w.heap.size, 0, none⟩ = some (.slice a nv c) ∧ w'.cell? ⟨w.heap.size, 1, none⟩ = some (.slice a' na c') ∧ w'.cell? ⟨w.heap.size, 2, none⟩ = some (tc) ∧ w'.cell? ⟨w.heap.size + 1, 0, none⟩ = some (.int .i64 k) ∧ w'.cell? ⟨w.heap.size + 1, 1, none⟩ = some (.int .i64 v) ∧ w'.cell? ⟨w.heap.size + 1, 2, none⟩ = some (.slice a2 l.length c2)) (by kernel_rfl) ?_ (fun hHeld => ?_)
    · exact ⟨bA_0_c0, bA_0_c1, bA_0_c2, bB_0_c0, bB_0_c1, bB_0_c2⟩
    refine wpAnyH_take (i := 0) (v := ?vdq0) rfl (by kernel_rfl) (by kernel_rfl) (by kernel_rfl) (fun _ _ _ h => h) (Or.inl ⟨by kernel_rfl, ?ydq0⟩) (by assumption) ?rdq0
    case ydq0 =>
      intro w hSw
      try dsimp only at hSw
      go_simp
      try with_reducible rfl
    try simp only [Act.put, List.getElem_toArray, List.getElem_cons_zero, List.setIfInBounds_toArray, List.set_cons_zero, List.set_cons_succ]
    refine wpAnyH_take (i := 1) (v := ?vdq1) rfl (by kernel_rfl) (by kernel_rfl) (by kernel_rfl) (fun _ _ _ h => h) (Or.inl ⟨by kernel_rfl, ?ydq1⟩) (by assumption) ?rdq1
    case ydq1 =>
      intro w hSw
      try dsimp only at hSw
      go_simp
      try with_reducible rfl
    try simp only [Act.put, List.getElem_toArray, List.getElem_cons_zero, List.getElem_cons_succ, List.setIfInBounds_toArray, List.set_cons_zero, List.set_cons_succ]
    refine wpAnyH_take (i := 2) (v := ?vdq2) rfl (by kernel_rfl) (by kernel_rfl) (by kernel_rfl) (fun _ _ _ h => h) (Or.inl ⟨by kernel_rfl, ?ydq2⟩) (by assumption) ?rdq2
    case ydq2 =>
      intro w hSw
      try dsimp only at hSw
      go_simp
      try with_reducible rfl
    try simp only [Act.put, List.getElem_toArray, List.getElem_cons_zero, List.getElem_cons_succ, List.setIfInBounds_toArray, List.set_cons_zero, List.set_cons_succ]
    refine wpAnyH_take (i := 3) (v := ?vdq3) rfl (by kernel_rfl) (by kernel_rfl) (by kernel_rfl) (fun _ _ _ h => h) (Or.inl ⟨by kernel_rfl, ?ydq3⟩) (by assumption) ?rdq3
    case ydq3 =>
      intro w hSw
      try dsimp only at hSw
      go_simp
      try with_reducible rfl
    try simp only [Act.put, List.getElem_toArray, List.getElem_cons_zero, List.getElem_cons_succ, List.setIfInBounds_toArray, List.set_cons_zero, List.set_cons_succ]
    refine wpAnyH_take (i := 4) (v := ?vdq4) rfl (by kernel_rfl) (by kernel_rfl) (by kernel_rfl) (fun _ _ _ h => h) (Or.inl ⟨by kernel_rfl, ?ydq4⟩) (by assumption) ?rdq4
    case ydq4 =>
      intro w hSw
      try dsimp only at hSw
      go_simp
      try with_reducible rfl
    try simp only [Act.put, List.getElem_toArray, List.getElem_cons_zero, List.getElem_cons_succ, List.setIfInBounds_toArray, List.set_cons_zero, List.set_cons_succ]
    refine wpAnyH_take (i := 5) (v := ?vdq5) rfl (by kernel_rfl) (by kernel_rfl) (by kernel_rfl) (fun _ _ _ h => h) (Or.inl ⟨by kernel_rfl, ?ydq5⟩) (by assumption) ?rdq5
    case ydq5 =>
      intro w hSw
      try dsimp only at hSw
      go_simp
      try with_reducible rfl
    try simp only [Act.put, List.getElem_toArray, List.getElem_cons_zero, List.getElem_cons_succ, List.setIfInBounds_toArray, List.set_cons_zero, List.set_cons_succ]
    refine wpAnyH_take (i := 6) (v := ?vdq6) rfl (by kernel_rfl) (by kernel_rfl) (by kernel_rfl) (fun _ _ _ h => h) (Or.inl ⟨by kernel_rfl, ?ydq6⟩) (by assumption) ?rdq6
    case ydq6 =>
      intro w hSw
      try dsimp only at hSw
      go_simp
      try with_reducible rfl
    try simp only [Act.put, List.getElem_toArray, List.getElem_cons_zero, List.getElem_cons_succ, List.setIfInBounds_toArray, List.set_cons_zero, List.set_cons_succ]
    refine wpAnyH_take (i := 7) (v := ?vdq7) rfl (by kernel_rfl) (by kernel_rfl) (by kernel_rfl) (fun _ _ _ h => h) (Or.inl ⟨by kernel_rfl, ?ydq7⟩) (by assumption) ?rdq7
    case ydq7 =>
      intro w hSw
      try dsimp only at hSw
      go_simp
      try with_reducible rfl
    try simp only [Act.put, List.getElem_toArray, List.getElem_cons_zero, List.getElem_cons_succ, List.setIfInBounds_toArray, List.set_cons_zero, List.set_cons_succ]
    refine wpAnyH_ready (rs := [8]) (by kernel_rfl) (by simp) ?_
    refine AllReadyH.cons rfl (fun K hK => ?_) AllReadyH.nil
    go_simp
    refine (l2Arity k).mono ?_
    rintro e w' ⟨rfl, rfl⟩
    go_simp
    refine hK.out _ _ ?_ (fun hHeld2 => ?_)
    · exact ⟨bA_0_c0, bA_0_c1, bA_0_c2, bB_0_c0, bB_0_c1, bB_0_c2⟩
    clear hK K hHeld
    have hHeld := hHeld2
    clear hHeld2
    try simp only [Act.put, List.getElem_toArray, List.getElem_cons_zero, List.getElem_cons_succ, List.setIfInBounds_toArray, List.set_cons_zero, List.set_cons_succ]
    refine wpAnyH_take (i := 9) (v := ?vdq9) rfl (by kernel_rfl) (by kernel_rfl) (by kernel_rfl) (fun _ _ _ h => h) (Or.inl ⟨by kernel_rfl, ?ydq9⟩) (by assumption) ?rdq9
    case ydq9 =>
      intro w hSw
      try dsimp only at hSw
      go_simp
      try with_reducible rfl
    try simp only [Act.put, List.getElem_toArray, List.getElem_cons_zero, List.getElem_cons_succ, List.setIfInBounds_toArray, List.set_cons_zero, List.set_cons_succ]
    refine wpAnyH_take (i := 10) (v := ?vdq10) rfl (by kernel_rfl) (by kernel_rfl) (by kernel_rfl) (fun _ _ _ h => h) (Or.inl ⟨by kernel_rfl, ?ydq10⟩) (by assumption) ?rdq10
    case ydq10 =>
      intro w hSw
      try dsimp only at hSw
      go_simp
      try with_reducible rfl
    try simp only [Act.put, List.getElem_toArray, List.getElem_cons_zero, List.getElem_cons_succ, List.setIfInBounds_toArray, List.set_cons_zero, List.set_cons_succ]
    refine wpAnyH_take (i := 11) (v := ?vdq11) rfl (by kernel_rfl) (by kernel_rfl) (by kernel_rfl) (fun _ _ _ h => h) (Or.inl ⟨by kernel_rfl, ?ydq11⟩) (by assumption) ?rdq11
    case ydq11 =>
      intro w hSw
      try dsimp only at hSw
      go_simp
      try with_reducible rfl
    try simp only [Act.put, List.getElem_toArray, List.getElem_cons_zero, List.getElem_cons_succ, List.setIfInBounds_toArray, List.set_cons_zero, List.set_cons_succ]
    refine wpAnyH_take (i := 12) (v := ?vdq12) rfl (by kernel_rfl) (by kernel_rfl) (by kernel_rfl) (fun _ _ _ h => h) (Or.inl ⟨by kernel_rfl, ?ydq12⟩) (by assumption) ?rdq12
    case ydq12 =>
      intro w hSw
      try dsimp only at hSw
      go_simp
      try with_reducible rfl
    try simp only [Act.put, List.getElem_toArray, List.getElem_cons_zero, List.getElem_cons_succ, List.setIfInBounds_toArray, List.set_cons_zero, List.set_cons_succ]
    refine wpAnyH_take (i := 13) (v := ?vdq13) rfl (by kernel_rfl) (by kernel_rfl) (by kernel_rfl) (fun _ _ _ h => h) (Or.inl ⟨by kernel_rfl, ?ydq13⟩) (by assumption) ?rdq13
    case ydq13 =>
      intro w hSw
      try dsimp only at hSw
      go_simp
      try with_reducible rfl
    try simp only [Act.put, List.getElem_toArray, List.getElem_cons_zero, List.getElem_cons_succ, List.setIfInBounds_toArray, List.set_cons_zero, List.set_cons_succ]
    refine wpAnyH_take (i := 14) (v := ?vdq14) rfl (by kernel_rfl) (by kernel_rfl) (by kernel_rfl) (fun _ _ _ h => h) (Or.inl ⟨by kernel_rfl, ?ydq14⟩) (by assumption) ?rdq14
    case ydq14 =>
      intro w hSw
      try dsimp only at hSw
      go_simp
      try with_reducible rfl
    try simp only [Act.put, List.getElem_toArray, List.getElem_cons_zero, List.getElem_cons_succ, List.setIfInBounds_toArray, List.set_cons_zero, List.set_cons_succ]
    refine wpAnyH_take (i := 15) (v := ?vdq15) rfl (by kernel_rfl) (by kernel_rfl) (by kernel_rfl) (fun _ _ _ h => h) (Or.inl ⟨by kernel_rfl, ?ydq15⟩) (by assumption) ?rdq15
    case ydq15 =>
      intro w hSw
      try dsimp only at hSw
      go_simp
      try with_reducible rfl
    try simp only [Act.put, List.getElem_toArray, List.getElem_cons_zero, List.getElem_cons_succ, List.setIfInBounds_toArray, List.set_cons_zero, List.set_cons_succ]
    refine wpAnyH_take (i := 16) (v := ?vdq16) rfl (by kernel_rfl) (by kernel_rfl) (by kernel_rfl) (fun _ _ _ h => h) (Or.inl ⟨by kernel_rfl, ?ydq16⟩) (by assumption) ?rdq16
    case ydq16 =>
      intro w hSw
      try dsimp only at hSw
      go_simp
      try with_reducible rfl
    try simp only [Act.put, List.getElem_toArray, List.getElem_cons_zero, List.getElem_cons_succ, List.setIfInBounds_toArray, List.set_cons_zero, List.set_cons_succ]
    refine wpAnyH_take (i := 17) (v := undef) rfl (by kernel_rfl) (by kernel_rfl) (by kernel_rfl) (fun _ _ _ h => h) (Or.inr ⟨by kernel_rfl, rfl⟩) (by assumption) ?_
    try simp only [Act.put, List.getElem_toArray, List.getElem_cons_zero, List.getElem_cons_succ, List.setIfInBounds_toArray, List.set_cons_zero, List.set_cons_succ]
    refine wpAnyH_take (i := 18) (v := undef) rfl (by kernel_rfl) (by kernel_rfl) (by kernel_rfl) (fun _ _ _ h => h) (Or.inr ⟨by kernel_rfl, rfl⟩) (by assumption) ?_
    try simp only [Act.put, List.getElem_toArray, List.getElem_cons_zero, List.getElem_cons_succ, List.setIfInBounds_toArray, List.set_cons_zero, List.set_cons_succ]
    refine wpAnyH_take (i := 19) (v := undef) rfl (by kernel_rfl) (by kernel_rfl) (by kernel_rfl) (fun _ _ _ h => h) (Or.inr ⟨by kernel_rfl, rfl⟩) (by assumption) ?_
    try simp only [Act.put, List.getElem_toArray, List.getElem_cons_zero, List.getElem_cons_succ, List.setIfInBounds_toArray, List.set_cons_zero, List.set_cons_succ]
    refine wpAnyH_take (i := 20) (v := undef) rfl (by kernel_rfl) (by kernel_rfl) (by kernel_rfl) (fun _ _ _ h => h) (Or.inr ⟨by kernel_rfl, rfl⟩) (by assumption) ?_
    try simp only [Act.put, List.getElem_toArray, List.getElem_cons_zero, List.getElem_cons_succ, List.setIfInBounds_toArray, List.set_cons_zero, List.set_cons_succ]
    refine wpAnyH_take (i := 21) (v := undef) rfl (by kernel_rfl) (by kernel_rfl) (by kernel_rfl) (fun _ _ _ h => h) (Or.inr ⟨by kernel_rfl, rfl⟩) (by assumption) ?_
    try simp only [Act.put, List.getElem_toArray, List.getElem_cons_zero, List.getElem_cons_succ, List.setIfInBounds_toArray, List.set_cons_zero, List.set_cons_succ]
    refine wpAnyH_take (i := 22) (v := undef) rfl (by kernel_rfl) (by kernel_rfl) (by kernel_rfl) (fun _ _ _ h => h) (Or.inr ⟨by kernel_rfl, rfl⟩) (by assumption) ?_
    try simp only [Act.put, List.getElem_toArray, List.getElem_cons_zero, List.getElem_cons_succ, List.setIfInBounds_toArray, List.set_cons_zero, List.set_cons_succ]
    refine wpAnyH_take (i := 23) (v := undef) rfl (by kernel_rfl) (by kernel_rfl) (by kernel_rfl) (fun _ _ _ h => h) (Or.inr ⟨by kernel_rfl, rfl⟩) (by assumption) ?_
    try simp only [Act.put, List.getElem_toArray, List.getElem_cons_zero, List.getElem_cons_succ, List.setIfInBounds_toArray, List.set_cons_zero, List.set_cons_succ]
    refine wpAnyH_take (i := 24) (v := ?vdq24) rfl (by kernel_rfl) (by kernel_rfl) (by kernel_rfl) (fun _ _ _ h => h) (Or.inl ⟨by kernel_rfl, ?ydq24⟩) (by assumption) ?rdq24
    case ydq24 =>
      intro w hSw
      try dsimp only at hSw
      go_simp
      try with_reducible rfl
    try simp only [Act.put, List.getElem_toArray, List.getElem_cons_zero, List.getElem_cons_succ, List.setIfInBounds_toArray, List.set_cons_zero, List.set_cons_succ]
    refine wpAnyH_done (by kernel_rfl) ?_ _
    go_wp2
    go_ret
    exact ⟨retB D.out.symm, N0d⟩
  have g2b : 0 ≤ v := by omega
  have g2c : decide (v < 0) = false := by rw [decide_eq_false_iff_not]; exact g2
  clear g2
  by_cases g3 : limit nv na k ≤ v
  · have D := Lib.hid (show shp nv na (.node k v l) d.toNat = false by
      have e : decide (v < limit nv na k) = false := by rw [decide_eq_false_iff_not]; omega
      rw [U.out, e]; simp)
    go_wp2_with fail
    refine wp_region_held_drew (S := fun w' => w'.cell? ⟨w.heap.size, 0, none⟩ = some (.slice a nv c) ∧ w'.cell? ⟨w.heap.size, 1, none⟩ = some (.slice a' na c') ∧ w'.cell? ⟨w.heap.size, 2, none⟩ = some (tc) ∧ w'.cell? ⟨w.heap.size + 1, 0, none⟩ = some (.int .i64 k) ∧ w'.cell? ⟨w.heap.size + 1, 1, none⟩ = some (.int .i64 v) ∧ w'.cell? ⟨w.heap.size + 1, 2, none⟩ = some (.slice a2 l.length c2)) (by kernel_rfl) ?_ (fun hHeld => ?_)
    · exact ⟨bA_0_c0, bA_0_c1, bA_0_c2, bB_0_c0, bB_0_c1, bB_0_c2⟩
    refine wpAnyH_take (i := 0) (v := ?veq0) rfl (by kernel_rfl) (by kernel_rfl) (by kernel_rfl) (fun _ _ _ h => h) (Or.inl ⟨by kernel_rfl, ?yeq0⟩) (by assumption) ?req0
    case yeq0 =>
      intro w hSw
      try dsimp only at hSw
      go_simp
      try with_reducible rfl
    try simp only [Act.put, List.getElem_toArray, List.getElem_cons_zero, List.setIfInBounds_toArray, List.set_cons_zero, List.set_cons_succ]
    refine wpAnyH_take (i := 1) (v := ?veq1) rfl (by kernel_rfl) (by kernel_rfl) (by kernel_rfl) (fun _ _ _ h => h) (Or.inl ⟨by kernel_rfl, ?yeq1⟩) (by assumption) ?req1
    case yeq1 =>
      intro w hSw
      try dsimp only at hSw
      go_simp
      try with_reducible rfl
    try simp only [Act.put, List.getElem_toArray, List.getElem_cons_zero, List.getElem_cons_succ, List.setIfInBounds_toArray, List.set_cons_zero, List.set_cons_succ]
    refine wpAnyH_take (i := 2) (v := ?veq2) rfl (by kernel_rfl) (by kernel_rfl) (by kernel_rfl) (fun _ _ _ h => h) (Or.inl ⟨by kernel_rfl, ?yeq2⟩) (by assumption) ?req2
    case yeq2 =>
      intro w hSw
      try dsimp only at hSw
      go_simp
      try with_reducible rfl
    try simp only [Act.put, List.getElem_toArray, List.getElem_cons_zero, List.getElem_cons_succ, List.setIfInBounds_toArray, List.set_cons_zero, List.set_cons_succ]
    refine wpAnyH_take (i := 3) (v := ?veq3) rfl (by kernel_rfl) (by kernel_rfl) (by kernel_rfl) (fun _ _ _ h => h) (Or.inl ⟨by kernel_rfl, ?yeq3⟩) (by assumption) ?req3
    case yeq3 =>
      intro w hSw
      try dsimp only at hSw
      go_simp
      try with_reducible rfl
    try simp only [Act.put, List.getElem_toArray, List.getElem_cons_zero, List.getElem_cons_succ, List.setIfInBounds_toArray, List.set_cons_zero, List.set_cons_succ]
    refine wpAnyH_take (i := 4) (v := ?veq4) rfl (by kernel_rfl) (by kernel_rfl) (by kernel_rfl) (fun _ _ _ h => h) (Or.inl ⟨by kernel_rfl, ?yeq4⟩) (by assumption) ?req4
    case yeq4 =>
      intro w hSw
      try dsimp only at hSw
      go_simp
      try with_reducible rfl
    try simp only [Act.put, List.getElem_toArray, List.getElem_cons_zero, List.getElem_cons_succ, List.setIfInBounds_toArray, List.set_cons_zero, List.set_cons_succ]
    refine wpAnyH_take (i := 5) (v := ?veq5) rfl (by kernel_rfl) (by kernel_rfl) (by kernel_rfl) (fun _ _ _ h => h) (Or.inl ⟨by kernel_rfl, ?yeq5⟩) (by assumption) ?req5
    case yeq5 =>
      intro w hSw
      try dsimp only at hSw
      go_simp
      try with_reducible rfl
    try simp only [Act.put, List.getElem_toArray, List.getElem_cons_zero, List.getElem_cons_succ, List.setIfInBounds_toArray, List.set_cons_zero, List.set_cons_succ]
    refine wpAnyH_take (i := 6) (v := ?veq6) rfl (by kernel_rfl) (by kernel_rfl) (by kernel_rfl) (fun _ _ _ h => h) (Or.inl ⟨by kernel_rfl, ?yeq6⟩) (by assumption) ?req6
    case yeq6 =>
      intro w hSw
      try dsimp only at hSw
      go_simp
      try with_reducible rfl
    try simp only [Act.put, List.getElem_toArray, List.getElem_cons_zero, List.getElem_cons_succ, List.setIfInBounds_toArray, List.set_cons_zero, List.set_cons_succ]
    refine wpAnyH_take (i := 7) (v := ?veq7) rfl (by kernel_rfl) (by kernel_rfl) (by kernel_rfl) (fun _ _ _ h => h) (Or.inl ⟨by kernel_rfl, ?yeq7⟩) (by assumption) ?req7
    case yeq7 =>
      intro w hSw
      try dsimp only at hSw
      go_simp
      try with_reducible rfl
    try simp only [Act.put, List.getElem_toArray, List.getElem_cons_zero, List.getElem_cons_succ, List.setIfInBounds_toArray, List.set_cons_zero, List.set_cons_succ]
    refine wpAnyH_ready (rs := [8]) (by kernel_rfl) (by simp) ?_
    refine AllReadyH.cons rfl (fun K hK => ?_) AllReadyH.nil
    go_simp
    refine (l2Arity k).mono ?_
    rintro e w' ⟨rfl, rfl⟩
    go_simp
    refine hK.out _ _ ?_ (fun hHeld2 => ?_)
    · exact ⟨bA_0_c0, bA_0_c1, bA_0_c2, bB_0_c0, bB_0_c1, bB_0_c2⟩
    clear hK K hHeld
    have hHeld := hHeld2
    clear hHeld2
    try simp only [Act.put, List.getElem_toArray, List.getElem_cons_zero, List.getElem_cons_succ, List.setIfInBounds_toArray, List.set_cons_zero, List.set_cons_succ]
    refine wpAnyH_take (i := 9) (v := ?veq9) rfl (by kernel_rfl) (by kernel_rfl) (by kernel_rfl) (fun _ _ _ h => h) (Or.inl ⟨by kernel_rfl, ?yeq9⟩) (by assumption) ?req9
    case yeq9 =>
      intro w hSw
      try dsimp only at hSw
      go_simp
      try with_reducible rfl
    try simp only [Act.put, List.getElem_toArray, List.getElem_cons_zero, List.getElem_cons_succ, List.setIfInBounds_toArray, List.set_cons_zero, List.set_cons_succ]
    refine wpAnyH_take (i := 10) (v := ?veq10) rfl (by kernel_rfl) (by kernel_rfl) (by kernel_rfl) (fun _ _ _ h => h) (Or.inl ⟨by kernel_rfl, ?yeq10⟩) (by assumption) ?req10
    case yeq10 =>
      intro w hSw
      try dsimp only at hSw
      go_simp
      try with_reducible rfl
    try simp only [Act.put, List.getElem_toArray, List.getElem_cons_zero, List.getElem_cons_succ, List.setIfInBounds_toArray, List.set_cons_zero, List.set_cons_succ]
    refine wpAnyH_take (i := 11) (v := ?veq11) rfl (by kernel_rfl) (by kernel_rfl) (by kernel_rfl) (fun _ _ _ h => h) (Or.inl ⟨by kernel_rfl, ?yeq11⟩) (by assumption) ?req11
    case yeq11 =>
      intro w hSw
      try dsimp only at hSw
      go_simp
      try with_reducible rfl
    try simp only [Act.put, List.getElem_toArray, List.getElem_cons_zero, List.getElem_cons_succ, List.setIfInBounds_toArray, List.set_cons_zero, List.set_cons_succ]
    refine wpAnyH_take (i := 12) (v := ?veq12) rfl (by kernel_rfl) (by kernel_rfl) (by kernel_rfl) (fun _ _ _ h => h) (Or.inl ⟨by kernel_rfl, ?yeq12⟩) (by assumption) ?req12
    case yeq12 =>
      intro w hSw
      try dsimp only at hSw
      go_simp
      try with_reducible rfl
    try simp only [Act.put, List.getElem_toArray, List.getElem_cons_zero, List.getElem_cons_succ, List.setIfInBounds_toArray, List.set_cons_zero, List.set_cons_succ]
    refine wpAnyH_take (i := 13) (v := ?veq13) rfl (by kernel_rfl) (by kernel_rfl) (by kernel_rfl) (fun _ _ _ h => h) (Or.inl ⟨by kernel_rfl, ?yeq13⟩) (by assumption) ?req13
    case yeq13 =>
      intro w hSw
      try dsimp only at hSw
      go_simp
      try with_reducible rfl
    try simp only [Act.put, List.getElem_toArray, List.getElem_cons_zero, List.getElem_cons_succ, List.setIfInBounds_toArray, List.set_cons_zero, List.set_cons_succ]
    refine wpAnyH_take (i := 14) (v := ?veq14) rfl (by kernel_rfl) (by kernel_rfl) (by kernel_rfl) (fun _ _ _ h => h) (Or.inl ⟨by kernel_rfl, ?yeq14⟩) (by assumption) ?req14
    case yeq14 =>
      intro w hSw
      try dsimp only at hSw
      go_simp
      try with_reducible rfl
    try simp only [Act.put, List.getElem_toArray, List.getElem_cons_zero, List.getElem_cons_succ, List.setIfInBounds_toArray, List.set_cons_zero, List.set_cons_succ]
    refine wpAnyH_take (i := 15) (v := ?veq15) rfl (by kernel_rfl) (by kernel_rfl) (by kernel_rfl) (fun _ _ _ h => h) (Or.inl ⟨by kernel_rfl, ?yeq15⟩) (by assumption) ?req15
    case yeq15 =>
      intro w hSw
      try dsimp only at hSw
      go_simp
      try with_reducible rfl
    try simp only [Act.put, List.getElem_toArray, List.getElem_cons_zero, List.getElem_cons_succ, List.setIfInBounds_toArray, List.set_cons_zero, List.set_cons_succ]
    refine wpAnyH_take (i := 16) (v := ?veq16) rfl (by kernel_rfl) (by kernel_rfl) (by kernel_rfl) (fun _ _ _ h => h) (Or.inl ⟨by kernel_rfl, ?yeq16⟩) (by assumption) ?req16
    case yeq16 =>
      intro w hSw
      try dsimp only at hSw
      go_simp
      try with_reducible rfl
    try simp only [Act.put, List.getElem_toArray, List.getElem_cons_zero, List.getElem_cons_succ, List.setIfInBounds_toArray, List.set_cons_zero, List.set_cons_succ]
    refine wpAnyH_take (i := 17) (v := ?veq17) rfl (by kernel_rfl) (by kernel_rfl) (by kernel_rfl) (fun _ _ _ h => h) (Or.inl ⟨by kernel_rfl, ?yeq17⟩) (by assumption) ?req17
    case yeq17 =>
      intro w hSw
      try dsimp only at hSw
      go_simp
      try with_reducible rfl
    try simp only [Act.put, List.getElem_toArray, List.getElem_cons_zero, List.getElem_cons_succ, List.setIfInBounds_toArray, List.set_cons_zero, List.set_cons_succ]
    refine wpAnyH_take (i := 18) (v := ?veq18) rfl (by kernel_rfl) (by kernel_rfl) (by kernel_rfl) (fun _ _ _ h => h) (Or.inl ⟨by kernel_rfl, ?yeq18⟩) (by assumption) ?req18
    case yeq18 =>
      intro w hSw
      try dsimp only at hSw
      go_simp
      try with_reducible rfl
    try simp only [Act.put, List.getElem_toArray, List.getElem_cons_zero, List.getElem_cons_succ, List.setIfInBounds_toArray, List.set_cons_zero, List.set_cons_succ]
    refine wpAnyH_take (i := 19) (v := ?veq19) rfl (by kernel_rfl) (by kernel_rfl) (by kernel_rfl) (fun _ _ _ h => h) (Or.inl ⟨by kernel_rfl, ?yeq19⟩) (by assumption) ?req19
    case yeq19 =>
      intro w hSw
      try dsimp only at hSw
      go_simp
      try with_reducible rfl
    try simp only [Act.put, List.getElem_toArray, List.getElem_cons_zero, List.getElem_cons_succ, List.setIfInBounds_toArray, List.set_cons_zero, List.set_cons_succ]
    refine wpAnyH_take (i := 20) (v := ?veq20) rfl (by kernel_rfl) (by kernel_rfl) (by kernel_rfl) (fun _ _ _ h => h) (Or.inl ⟨by kernel_rfl, ?yeq20⟩) (by assumption) ?req20
    case yeq20 =>
      intro w hSw
      try dsimp only at hSw
      go_simp
      try with_reducible rfl
    try simp only [Act.put, List.getElem_toArray, List.getElem_cons_zero, List.getElem_cons_succ, List.setIfInBounds_toArray, List.set_cons_zero, List.set_cons_succ]
    refine wpAnyH_take (i := 21) (v := ?veq21) rfl (by kernel_rfl) (by kernel_rfl) (by kernel_rfl) (fun _ _ _ h => h) (Or.inl ⟨by kernel_rfl, ?yeq21⟩) (by assumption) ?req21
    case yeq21 =>
      intro w hSw
      try dsimp only at hSw
      go_simp
      try with_reducible rfl
    try simp only [Act.put, List.getElem_toArray, List.getElem_cons_zero, List.getElem_cons_succ, List.setIfInBounds_toArray, List.set_cons_zero, List.set_cons_succ]
    refine wpAnyH_ready (rs := [22]) (by kernel_rfl) (by simp) ?_
    refine AllReadyH.cons rfl (fun K hK => ?_) AllReadyH.nil
    go_simp
    refine (l2Limit k hnv hna).mono ?_
    rintro e w1 ⟨rfl, hn1⟩
    have N1 := N0d.trans hn1
    have z1 := hn1.size
    have bA_1 := heap_new hn1 bA_0d
    have bB_1 := heap_new hn1 bB_0d
    have bA_1_c0 := cell_of_heap bA_1 0
    have bA_1_c1 := cell_of_heap bA_1 1
    have bA_1_c2 := cell_of_heap bA_1 2
    have bB_1_c0 := cell_of_heap bB_1 0
    have bB_1_c1 := cell_of_heap bB_1 1
    have bB_1_c2 := cell_of_heap bB_1 2
    go_simp
    refine hK.out _ _ ?_ (fun hHeld2 => ?_)
    · exact ⟨bA_1_c0, bA_1_c1, bA_1_c2, bB_1_c0, bB_1_c1, bB_1_c2⟩
    clear hK K hHeld
    have hHeld := hHeld2
    clear hHeld2
    try simp only [Act.put, List.getElem_toArray, List.getElem_cons_zero, List.getElem_cons_succ, List.setIfInBounds_toArray, List.set_cons_zero, List.set_cons_succ]
    refine wpAnyH_take (i := 23) (v := ?veq23) rfl (by kernel_rfl) (by kernel_rfl) (by kernel_rfl) (fun _ _ _ h => h) (Or.inl ⟨by kernel_rfl, ?yeq23⟩) (by assumption) ?req23
    case yeq23 =>
      intro w hSw
      try dsimp only at hSw
      go_simp
      try with_reducible rfl
    try simp only [Act.put, List.getElem_toArray, List.getElem_cons_zero, List.getElem_cons_succ, List.setIfInBounds_toArray, List.set_cons_zero, List.set_cons_succ]
    refine wpAnyH_take (i := 24) (v := ?veq24) rfl (by kernel_rfl) (by kernel_rfl) (by kernel_rfl) (fun _ _ _ h => h) (Or.inl ⟨by kernel_rfl, ?yeq24⟩) (by assumption) ?req24
    case yeq24 =>
      intro w hSw
      try dsimp only at hSw
      go_simp
      try with_reducible rfl
    try simp only [Act.put, List.getElem_toArray, List.getElem_cons_zero, List.getElem_cons_succ, List.setIfInBounds_toArray, List.set_cons_zero, List.set_cons_succ]
    refine wpAnyH_done (by kernel_rfl) ?_ _
    go_wp2
    go_ret
    exact ⟨retB D.out.symm, N1⟩
  have g3b : v < limit nv na k := by omega
  have V := Lib.hid (show shp nv na (.node k v l) d.toNat = (shps nv na l (d.toNat - 1) && (!(k == 3) || atom0 l)) by
    have e1 : decide ((l.length : Int) = arity k) = true := by rw [decide_eq_true_eq]; exact G1.out
    have e2 : decide (0 ≤ v) = true := by rw [decide_eq_true_eq]; exact g2b
    have e3 : decide (v < limit nv na k) = true := by rw [decide_eq_true_eq]; exact g3b
    rw [U.out, E0.out, e1, e2, e3]; simp)
  have g3c : decide (limit nv na k ≤ v) = false := by rw [decide_eq_false_iff_not]; omega
  clear g3 U
  go_wp2_with fail
  refine wp_region_held_drew (S := fun w' => w'.cell? ⟨w.heap.size, 0, none⟩ = some (.slice a nv c) ∧ w'.cell? ⟨w.heap.size, 1, none⟩ = some (.slice a' na c') ∧ w'.cell? ⟨w.heap.size, 2, none⟩ = some (tc) ∧ w'.cell? ⟨w.heap.size + 1, 0, none⟩ = some (.int .i64 k) ∧ w'.cell? ⟨w.heap.size + 1, 1, none⟩ = some (.int .i64 v) ∧ w'.cell? ⟨w.heap.size + 1, 2, none⟩ = some (.slice a2 l.length c2)) (by kernel_rfl) ?_ (fun hHeld => ?_)
  · exact ⟨bA_0_c0, bA_0_c1, bA_0_c2, bB_0_c0, bB_0_c1, bB_0_c2⟩
  refine wpAnyH_take (i := 0) (v := ?vfq0) rfl (by kernel_rfl) (by kernel_rfl) (by kernel_rfl) (fun _ _ _ h => h) (Or.inl ⟨by kernel_rfl, ?yfq0⟩) (by assumption) ?rfq0
  case yfq0 =>
    intro w hSw
    try dsimp only at hSw
    go_simp
    try with_reducible rfl
  try simp only [Act.put, List.getElem_toArray, List.getElem_cons_zero, List.setIfInBounds_toArray, List.set_cons_zero, List.set_cons_succ]
  refine wpAnyH_take (i := 1) (v := ?vfq1) rfl (by kernel_rfl) (by kernel_rfl) (by kernel_rfl) (fun _ _ _ h => h) (Or.inl ⟨by kernel_rfl, ?yfq1⟩) (by assumption) ?rfq1
  case yfq1 =>
    intro w hSw
    try dsimp only at hSw
    go_simp
    try with_reducible rfl
  try simp only [Act.put, List.getElem_toArray, List.getElem_cons_zero, List.getElem_cons_succ, List.setIfInBounds_toArray, List.set_cons_zero, List.set_cons_succ]
  refine wpAnyH_take (i := 2) (v := ?vfq2) rfl (by kernel_rfl) (by kernel_rfl) (by kernel_rfl) (fun _ _ _ h => h) (Or.inl ⟨by kernel_rfl, ?yfq2⟩) (by assumption) ?rfq2
  case yfq2 =>
    intro w hSw
    try dsimp only at hSw
    go_simp
    try with_reducible rfl
  try simp only [Act.put, List.getElem_toArray, List.getElem_cons_zero, List.getElem_cons_succ, List.setIfInBounds_toArray, List.set_cons_zero, List.set_cons_succ]
  refine wpAnyH_take (i := 3) (v := ?vfq3) rfl (by kernel_rfl) (by kernel_rfl) (by kernel_rfl) (fun _ _ _ h => h) (Or.inl ⟨by kernel_rfl, ?yfq3⟩) (by assumption) ?rfq3
  case yfq3 =>
    intro w hSw
    try dsimp only at hSw
    go_simp
    try with_reducible rfl
  try simp only [Act.put, List.getElem_toArray, List.getElem_cons_zero, List.getElem_cons_succ, List.setIfInBounds_toArray, List.set_cons_zero, List.set_cons_succ]
  refine wpAnyH_take (i := 4) (v := ?vfq4) rfl (by kernel_rfl) (by kernel_rfl) (by kernel_rfl) (fun _ _ _ h => h) (Or.inl ⟨by kernel_rfl, ?yfq4⟩) (by assumption) ?rfq4
  case yfq4 =>
    intro w hSw
    try dsimp only at hSw
    go_simp
    try with_reducible rfl
  try simp only [Act.put, List.getElem_toArray, List.getElem_cons_zero, List.getElem_cons_succ, List.setIfInBounds_toArray, List.set_cons_zero, List.set_cons_succ]
  refine wpAnyH_take (i := 5) (v := ?vfq5) rfl (by kernel_rfl) (by kernel_rfl) (by kernel_rfl) (fun _ _ _ h => h) (Or.inl ⟨by kernel_rfl, ?yfq5⟩) (by assumption) ?rfq5
  case yfq5 =>
    intro w hSw
    try dsimp only at hSw
    go_simp
    try with_reducible rfl
  try simp only [Act.put, List.getElem_toArray, List.getElem_cons_zero, List.getElem_cons_succ, List.setIfInBounds_toArray, List.set_cons_zero, List.set_cons_succ]
  refine wpAnyH_take (i := 6) (v := ?vfq6) rfl (by kernel_rfl) (by kernel_rfl) (by kernel_rfl) (fun _ _ _ h => h) (Or.inl ⟨by kernel_rfl, ?yfq6⟩) (by assumption) ?rfq6
  case yfq6 =>
    intro w hSw
    try dsimp only at hSw
    go_simp
    try with_reducible rfl
  try simp only [Act.put, List.getElem_toArray, List.getElem_cons_zero, List.getElem_cons_succ, List.setIfInBounds_toArray, List.set_cons_zero, List.set_cons_succ]
  refine wpAnyH_take (i := 7) (v := ?vfq7) rfl (by kernel_rfl) (by kernel_rfl) (by kernel_rfl) (fun _ _ _ h => h) (Or.inl ⟨by kernel_rfl, ?yfq7⟩) (by assumption) ?rfq7
  case yfq7 =>
    intro w hSw
    try dsimp only at hSw
    go_simp
    try with_reducible rfl
  try simp only [Act.put, List.getElem_toArray, List.getElem_cons_zero, List.getElem_cons_succ, List.setIfInBounds_toArray, List.set_cons_zero, List.set_cons_succ]
  refine wpAnyH_ready (rs := [8]) (by kernel_rfl) (by simp) ?_
  refine AllReadyH.cons rfl (fun K hK => ?_) AllReadyH.nil
  go_simp
  refine (l2Arity k).mono ?_
  rintro e w' ⟨rfl, rfl⟩
  go_simp
  refine hK.out _ _ ?_ (fun hHeld2 => ?_)
  · exact ⟨bA_0_c0, bA_0_c1, bA_0_c2, bB_0_c0, bB_0_c1, bB_0_c2⟩
  clear hK K hHeld
  have hHeld := hHeld2
  clear hHeld2
  try simp only [Act.put, List.getElem_toArray, List.getElem_cons_zero, List.getElem_cons_succ, List.setIfInBounds_toArray, List.set_cons_zero, List.set_cons_succ]
  refine wpAnyH_take (i := 9) (v := ?vfq9) rfl (by kernel_rfl) (by kernel_rfl) (by kernel_rfl) (fun _ _ _ h => h) (Or.inl ⟨by kernel_rfl, ?yfq9⟩) (by assumption) ?rfq9
  case yfq9 =>
    intro w hSw
    try dsimp only at hSw
    go_simp
    try with_reducible rfl
  try simp only [Act.put, List.getElem_toArray, List.getElem_cons_zero, List.getElem_cons_succ, List.setIfInBounds_toArray, List.set_cons_zero, List.set_cons_succ]
  refine wpAnyH_take (i := 10) (v := ?vfq10) rfl (by kernel_rfl) (by kernel_rfl) (by kernel_rfl) (fun _ _ _ h => h) (Or.inl ⟨by kernel_rfl, ?yfq10⟩) (by assumption) ?rfq10
  case yfq10 =>
    intro w hSw
    try dsimp only at hSw
    go_simp
    try with_reducible rfl
  try simp only [Act.put, List.getElem_toArray, List.getElem_cons_zero, List.getElem_cons_succ, List.setIfInBounds_toArray, List.set_cons_zero, List.set_cons_succ]
  refine wpAnyH_take (i := 11) (v := ?vfq11) rfl (by kernel_rfl) (by kernel_rfl) (by kernel_rfl) (fun _ _ _ h => h) (Or.inl ⟨by kernel_rfl, ?yfq11⟩) (by assumption) ?rfq11
  case yfq11 =>
    intro w hSw
    try dsimp only at hSw
    go_simp
    try with_reducible rfl
  try simp only [Act.put, List.getElem_toArray, List.getElem_cons_zero, List.getElem_cons_succ, List.setIfInBounds_toArray, List.set_cons_zero, List.set_cons_succ]
  refine wpAnyH_take (i := 12) (v := ?vfq12) rfl (by kernel_rfl) (by kernel_rfl) (by kernel_rfl) (fun _ _ _ h => h) (Or.inl ⟨by kernel_rfl, ?yfq12⟩) (by assumption) ?rfq12
  case yfq12 =>
    intro w hSw
    try dsimp only at hSw
    go_simp
    try with_reducible rfl
  try simp only [Act.put, List.getElem_toArray, List.getElem_cons_zero, List.getElem_cons_succ, List.setIfInBounds_toArray, List.set_cons_zero, List.set_cons_succ]
  refine wpAnyH_take (i := 13) (v := ?vfq13) rfl (by kernel_rfl) (by kernel_rfl) (by kernel_rfl) (fun _ _ _ h => h) (Or.inl ⟨by kernel_rfl, ?yfq13⟩) (by assumption) ?rfq13
  case yfq13 =>
    intro w hSw
    try dsimp only at hSw
    go_simp
    try with_reducible rfl
  try simp only [Act.put, List.getElem_toArray, List.getElem_cons_zero, List.getElem_cons_succ, List.setIfInBounds_toArray, List.set_cons_zero, List.set_cons_succ]
  refine wpAnyH_take (i := 14) (v := ?vfq14) rfl (by kernel_rfl) (by kernel_rfl) (by kernel_rfl) (fun _ _ _ h => h) (Or.inl ⟨by kernel_rfl, ?yfq14⟩) (by assumption) ?rfq14
  case yfq14 =>
    intro w hSw
    try dsimp only at hSw
    go_simp
    try with_reducible rfl
  try simp only [Act.put, List.getElem_toArray, List.getElem_cons_zero, List.getElem_cons_succ, List.setIfInBounds_toArray, List.set_cons_zero, List.set_cons_succ]
  refine wpAnyH_take (i := 15) (v := ?vfq15) rfl (by kernel_rfl) (by kernel_rfl) (by kernel_rfl) (fun _ _ _ h => h) (Or.inl ⟨by kernel_rfl, ?yfq15⟩) (by assumption) ?rfq15
  case yfq15 =>
    intro w hSw
    try dsimp only at hSw
    go_simp
    try with_reducible rfl
  try simp only [Act.put, List.getElem_toArray, List.getElem_cons_zero, List.getElem_cons_succ, List.setIfInBounds_toArray, List.set_cons_zero, List.set_cons_succ]
  refine wpAnyH_take (i := 16) (v := ?vfq16) rfl (by kernel_rfl) (by kernel_rfl) (by kernel_rfl) (fun _ _ _ h => h) (Or.inl ⟨by kernel_rfl, ?yfq16⟩) (by assumption) ?rfq16
  case yfq16 =>
    intro w hSw
    try dsimp only at hSw
    go_simp
    try with_reducible rfl
  try simp only [Act.put, List.getElem_toArray, List.getElem_cons_zero, List.getElem_cons_succ, List.setIfInBounds_toArray, List.set_cons_zero, List.set_cons_succ]
  refine wpAnyH_take (i := 17) (v := ?vfq17) rfl (by kernel_rfl) (by kernel_rfl) (by kernel_rfl) (fun _ _ _ h => h) (Or.inl ⟨by kernel_rfl, ?yfq17⟩) (by assumption) ?rfq17
  case yfq17 =>
    intro w hSw
    try dsimp only at hSw
    go_simp
    try with_reducible rfl
  try simp only [Act.put, List.getElem_toArray, List.getElem_cons_zero, List.getElem_cons_succ, List.setIfInBounds_toArray, List.set_cons_zero, List.set_cons_succ]
  refine wpAnyH_take (i := 18) (v := ?vfq18) rfl (by kernel_rfl) (by kernel_rfl) (by kernel_rfl) (fun _ _ _ h => h) (Or.inl ⟨by kernel_rfl, ?yfq18⟩) (by assumption) ?rfq18
  case yfq18 =>
    intro w hSw
    try dsimp only at hSw
    go_simp
    try with_reducible rfl
  try simp only [Act.put, List.getElem_toArray, List.getElem_cons_zero, List.getElem_cons_succ, List.setIfInBounds_toArray, List.set_cons_zero, List.set_cons_succ]
  refine wpAnyH_take (i := 19) (v := ?vfq19) rfl (by kernel_rfl) (by kernel_rfl) (by kernel_rfl) (fun _ _ _ h => h) (Or.inl ⟨by kernel_rfl, ?yfq19⟩) (by assumption) ?rfq19
  case yfq19 =>
    intro w hSw
    try dsimp only at hSw
    go_simp
    try with_reducible rfl
  try simp only [Act.put, List.getElem_toArray, List.getElem_cons_zero, List.getElem_cons_succ, List.setIfInBounds_toArray, List.set_cons_zero, List.set_cons_succ]
  refine wpAnyH_take (i := 20) (v := ?vfq20) rfl (by kernel_rfl) (by kernel_rfl) (by kernel_rfl) (fun _ _ _ h => h) (Or.inl ⟨by kernel_rfl, ?yfq20⟩) (by assumption) ?rfq20
  case yfq20 =>
    intro w hSw
    try dsimp only at hSw
    go_simp
    try with_reducible rfl
  try simp only [Act.put, List.getElem_toArray, List.getElem_cons_zero, List.getElem_cons_succ, List.setIfInBounds_toArray, List.set_cons_zero, List.set_cons_succ]
  refine wpAnyH_take (i := 21) (v := ?vfq21) rfl (by kernel_rfl) (by kernel_rfl) (by kernel_rfl) (fun _ _ _ h => h) (Or.inl ⟨by kernel_rfl, ?yfq21⟩) (by assumption) ?rfq21
  case yfq21 =>
    intro w hSw
    try dsimp only at hSw
    go_simp
    try with_reducible rfl
  try simp only [Act.put, List.getElem_toArray, List.getElem_cons_zero, List.getElem_cons_succ, List.setIfInBounds_toArray, List.set_cons_zero, List.set_cons_succ]
  refine wpAnyH_ready (rs := [22]) (by kernel_rfl) (by simp) ?_
  refine AllReadyH.cons rfl (fun K hK => ?_) AllReadyH.nil
  go_simp
  refine (l2Limit k hnv hna).mono ?_
  rintro e w1 ⟨rfl, hn1⟩
  have N1 := N0d.trans hn1
  have z1 := hn1.size
  have bA_1 := heap_new hn1 bA_0d
  have bB_1 := heap_new hn1 bB_0d
  have bA_1_c0 := cell_of_heap bA_1 0
  have bA_1_c1 := cell_of_heap bA_1 1
  have bA_1_c2 := cell_of_heap bA_1 2
  have bB_1_c0 := cell_of_heap bB_1 0
  have bB_1_c1 := cell_of_heap bB_1 1
  have bB_1_c2 := cell_of_heap bB_1 2
  go_simp
  refine hK.out _ _ ?_ (fun hHeld2 => ?_)
  · exact ⟨bA_1_c0, bA_1_c1, bA_1_c2, bB_1_c0, bB_1_c1, bB_1_c2⟩
  clear hK K hHeld
  have hHeld := hHeld2
  clear hHeld2
  try simp only [Act.put, List.getElem_toArray, List.getElem_cons_zero, List.getElem_cons_succ, List.setIfInBounds_toArray, List.set_cons_zero, List.set_cons_succ]
  refine wpAnyH_take (i := 23) (v := ?vfq23) rfl (by kernel_rfl) (by kernel_rfl) (by kernel_rfl) (fun _ _ _ h => h) (Or.inl ⟨by kernel_rfl, ?yfq23⟩) (by assumption) ?rfq23
  case yfq23 =>
    intro w hSw
    try dsimp only at hSw
    go_simp
    try with_reducible rfl
  try simp only [Act.put, List.getElem_toArray, List.getElem_cons_zero, List.getElem_cons_succ, List.setIfInBounds_toArray, List.set_cons_zero, List.set_cons_succ]
  refine wpAnyH_take (i := 24) (v := ?vfq24) rfl (by kernel_rfl) (by kernel_rfl) (by kernel_rfl) (fun _ _ _ h => h) (Or.inl ⟨by kernel_rfl, ?yfq24⟩) (by assumption) ?rfq24
  case yfq24 =>
    intro w hSw
    try dsimp only at hSw
    go_simp
    try with_reducible rfl
  try simp only [Act.put, List.getElem_toArray, List.getElem_cons_zero, List.getElem_cons_succ, List.setIfInBounds_toArray, List.set_cons_zero, List.set_cons_succ]
  refine wpAnyH_done (by kernel_rfl) ?_ _
  clear g3b g3c g0c g2c
  go_wp2_with fail
  go_loopw [7] (fun i wr => ∃ j : Nat, j ≤ l.length ∧ i = .int .i64 j ∧ New w1 wr ∧ Hid (shps nv na (l.take j) (d.toNat - 1) = true)) (fun i _ => l.length - (intOf i).toNat)
  case atStart => exact ⟨0, Nat.zero_le _, rfl, Kp.refl _ _, Lib.hid (by simp [shps])⟩
  case round =>
    obtain ⟨j, hj, rfl, hNA, hG⟩ := hrel
    have N3 := N1.trans hNA
    have bA3 := heap_new hNA bA_1
    have bB3 := heap_new hNA bB_1
    have cA0 := cell_of_heap bA3 0
    have cA1 := cell_of_heap bA3 1
    have cA2 := cell_of_heap bA3 2
    have cB0 := cell_of_heap bB3 0
    have cB1 := cell_of_heap bB3 1
    have cB2 := cell_of_heap bB3 2
    by_cases hlt : j < l.length
    · obtain ⟨b, o, s, rfl, hb1, hb2, c0, c1, c2, hs1⟩ := (hs.new h1 N3).at j hlt
      have k1 := hs1.new (by have := N3.size; omega) ((Kp.refl _ wr).drew)
      have hsz : Ex.sizes l[j].kids < n := by have := Ex.kids_get l j hlt; omega
      have hB := Lib.hid (shps_bad nv na l (d.toNat - 1) j hlt)
      have hT := Lib.hid (shps_take nv na (d.toNat - 1) hlt)
      have hE := Lib.hid (show Ex.node l[j].kind l[j].val l[j].kids = l[j] by cases l[j]; rfl)
      have hd1 : IntKind.i64.wrap (d - 1) = d - 1 := IntWalk.i64_in _ (by omega)
      have hz : hi ≤ wr.drew.heap.size := by have := N3.size; simp; omega
      clear hs hs1
      generalize l[j] = x at *
      go_wp2_with fail
      set_option maxRecDepth 100000 in go_still_tail 8, (by kernel_rfl)
      change wpList _ _ _ _ _ wr.drew
      go_wp2_with fail
      refine (HH.out _ lo hi _ _ _ _ _ _ _ _ _ _ _ (d - 1) hsz k1 hz (by omega) (by omega) hnv hna).mono ?_
      rintro r w3 ⟨rfl, hn3⟩
      have N4 := N3.drew.trans hn3
      have hNA2 := hNA.drew.trans hn3
      rw [show (d - 1).toNat = d.toNat - 1 by omega, hE.out]
      clear hd1
      cases hp : shp nv na x (d.toNat - 1)
      · have hfin := Lib.hid (show shp nv na (.node k v l) d.toNat = false by rw [V.out, hB.out hp]; rfl)
        clear hB hT hG hp HH
        go_wp2
        go_ret
        exact ⟨retB hfin.out.symm, N4⟩
      · have hG2 := Lib.hid (show shps nv na (l.take (j + 1)) (d.toNat - 1) = true by rw [hT.out, hG.out, hp]; rfl)
        clear hB hT hG hp
        go_wp2
        go_roundw
        case rel => exact ⟨j + 1, by omega, by go_num, hNA2, hG2⟩
        case measure => simp [intOf]; omega
    · have E := Lib.hid (show shp nv na (.node k v l) d.toNat = (!(k == 3) || atom0 l) by
        have h := hG.out
        rw [List.take_of_length_le (by omega)] at h
        rw [V.out, h]; rfl)
      have hge : l.length ≤ j := by omega
      clear hG V
      by_cases hk3 : k = 3
      · have hlen : 0 < l.length := by have := G1.out; rw [hk3] at this; simp [arity] at this; omega
        obtain ⟨b, o, s, rfl, hb1, hb2, c0, c1, c2, hs1⟩ := (hs.new h1 N3).at 0 hlen
        have E2 := Lib.hid (show shp nv na (.node k v l) d.toNat = (l[0].kind == 1 || l[0].kind == 2) by
          rw [E.out, hk3]
          cases l with
          | nil => simp at hlen
          | cons x xs => rfl)
        have e3 : (k != 3) = false := by simp [hk3]
        rw [Nat.zero_mul, Nat.add_zero] at c0 c1 c2
        clear hs hs1 hk3 E HH
        generalize l[0] = x at *
        go_wp2_with fail
        refine (l2Atom _ _ _).mono ?_
        rintro r w3 ⟨rfl, hn3⟩
        go_wp2
        go_ret
        exact ⟨retB E2.out.symm, N3.trans hn3⟩
      · have e3 : (k != 3) = true := by simp [hk3]
        have D := Lib.hid (show shp nv na (.node k v l) d.toNat = true by rw [E.out]; simp [hk3])
        clear hk3 E HH hs
        go_wp2
        go_ret
        exact ⟨retB D.out.symm, N3⟩
theorem does : ∀ n, Does n
  | 0 => fun w lo hi a a' nv c na c' tc k v s l d hl => absurd hl (Nat.not_lt_zero _)
  | n + 1 => fun w lo hi a a' nv c na c' tc k v s l d hl hs h1 h2 h3 h4 h5 => shape_step n (does n) w lo hi a a' nv c na c' tc k v s l d (Nat.le_of_lt_succ hl) hs h1 h2 h3 h4 h5
def DoesC (n : Nat) : Prop := ∀ (w : World) (lo hi : Nat) (k v : Int) (s : Value) (l : List Ex) (d : Int), Ex.sizes l < n → Ex.sizes l + 1 ≤ 2097152 → KidsR w lo hi s l → hi ≤ w.heap.size → 0 ≤ d → d ≤ 10 →
  Calls Try.prog 147 #[.agg #[.int .i64 k, .int .i64 v, s], .int .i64 d] w fun e w' => e = .returned (.int .i64 (cnt (.node k v l) d.toNat)) ∧ New w w'
set_option maxHeartbeats 2000000 in
theorem count_step (n : Nat) (H : DoesC n) (w : World) (lo hi : Nat) (k v : Int) (s : Value) (l : List Ex) (d : Int) (hl : Ex.sizes l ≤ n) (hm : Ex.sizes l + 1 ≤ 2097152) (hs : KidsR w lo hi s l) (h1 : hi ≤ w.heap.size) (hd0 : 0 ≤ d) (hd10 : d ≤ 10) :
    Calls Try.prog 147 #[.agg #[.int .i64 k, .int .i64 v, s], .int .i64 d] w fun e w' => e = .returned (.int .i64 (cnt (.node k v l) d.toNat)) ∧ New w w' := by
  obtain ⟨a2, c2, rfl, hl1⟩ := hs.len
  have HH := Lib.hid H; clear H
  go_enter Try.func147, Try.ntmps147
  go_wp2_with fail
  have N0 : New w (w.alloc (.cells #[.int .i64 k, .int .i64 v, .slice a2 l.length c2] 147)) := ((Kp.refl _ _).alloc _)
  have bB_0 : (w.alloc (.cells #[.int .i64 k, .int .i64 v, .slice a2 l.length c2] 147)).heap[w.heap.size]? = some (.cells #[.int .i64 k, .int .i64 v, .slice a2 l.length c2] 147) := alloc_heap _ _
  have z0 : w.heap.size < (w.alloc (.cells #[.int .i64 k, .int .i64 v, .slice a2 l.length c2] 147)).heap.size := by simp
  generalize (w.alloc (.cells #[.int .i64 k, .int .i64 v, .slice a2 l.length c2] 147)) = w0 at *
  have bB_0_c0 := cell_of_heap bB_0 0
  have bB_0_c1 := cell_of_heap bB_0 1
  have bB_0_c2 := cell_of_heap bB_0 2
  have U := Lib.hid (show cnt (.node k v l) d.toNat = 1 + (if 0 < d.toNat then cnts l (d.toNat - 1) else 0) by rw [cnt])
  have hlen := Ex.length_sizes l
  by_cases g0 : 0 < d
  rotate_left
  · have D := Lib.hid (show (cnt (.node k v l) d.toNat : Int) = 1 by rw [U.out, if_neg (by omega)]; rfl)
    have e0 : decide (0 < d) = false := by rw [decide_eq_false_iff_not]; omega
    have g0b : d ≤ 0 := by omega
    clear g0 HH
    go_wp2_with fail
    go_loopw [5, 6] (fun q i wr => q = .int .i64 1 ∧ i = .int .i64 0 ∧ wr = w0) (fun _ i _ => 0)
    case atStart => exact ⟨rfl, rfl, rfl⟩
    case round =>
      obtain ⟨rfl, rfl, rfl⟩ := hrel
      by_cases hl0 : 0 < l.length
      · go_wp2
        go_ret
        exact ⟨retI D.out.symm, N0⟩
      · have hl00 : l.length ≤ 0 := by omega
        go_wp2
        go_ret
        exact ⟨retI D.out.symm, N0⟩
  have V := Lib.hid (show cnt (.node k v l) d.toNat = 1 + cnts l (d.toNat - 1) by rw [U.out, if_pos (by omega)])
  clear U
  go_wp2_with fail
  go_loopw [5, 6] (fun q i wr => ∃ (j m : Nat), j ≤ l.length ∧ i = .int .i64 j ∧ q = .int .i64 m ∧ m ≤ 2097153 ∧ New w0 wr ∧ Hid (m = 1 + cnts (l.take j) (d.toNat - 1))) (fun _ i _ => l.length - (intOf i).toNat)
  case atStart => exact ⟨0, 1, Nat.zero_le _, rfl, rfl, by omega, Kp.refl _ _, Lib.hid (by simp [cnts])⟩
  case round =>
    obtain ⟨j, m, hj, rfl, rfl, hm1, hNA, hG⟩ := hrel
    have N3 := N0.trans hNA
    have bB3 := heap_new hNA bB_0
    have cB0 := cell_of_heap bB3 0
    have cB1 := cell_of_heap bB3 1
    have cB2 := cell_of_heap bB3 2
    by_cases hlt : j < l.length
    · obtain ⟨b, o, s, rfl, hb1, hb2, c0, c1, c2, hs1⟩ := (hs.new h1 N3).at j hlt
      have hsz : Ex.sizes l[j].kids < n := by have := Ex.kids_get l j hlt; omega
      have hsm : Ex.sizes l[j].kids + 1 ≤ 2097152 := by have := Ex.kids_get l j hlt; omega
      have hT := Lib.hid (cnts_take (d.toNat - 1) hlt)
      have hle := Lib.hid (show cnts (l.take (j + 1)) (d.toNat - 1) ≤ 2097152 by
        have e1 := cnts_le (l.take (j + 1)) (d.toNat - 1)
        have e2 := Ex.sizes_take_drop l (j + 1)
        omega)
      have hE := Lib.hid (show Ex.node l[j].kind l[j].val l[j].kids = l[j] by cases l[j]; rfl)
      have hd1 : IntKind.i64.wrap (d - 1) = d - 1 := IntWalk.i64_in _ (by omega)
      have hz : hi ≤ wr.heap.size := by have := N3.size; omega
      clear hs
      generalize l[j] = x at *
      go_wp2_with fail
      refine (HH.out _ lo hi _ _ _ _ (d - 1) hsz hsm hs1 hz (by omega) (by omega)).mono ?_
      rintro r w3 ⟨rfl, hn3⟩
      have N4 := N3.trans hn3
      have hNA2 := hNA.trans hn3
      rw [show (d - 1).toNat = d.toNat - 1 by omega, hE.out]
      have hq1 : m + cnt x (d.toNat - 1) ≤ 2097153 := by have := hG.out; have := hT.out; have := hle.out; omega
      have hG2 := Lib.hid (show m + cnt x (d.toNat - 1) = 1 + cnts (l.take (j + 1)) (d.toNat - 1) by have := hG.out; have := hT.out; omega)
      clear hd1 hT hG hle
      generalize cnt x (d.toNat - 1) = y at *
      go_wp2
      go_roundw
      case rel => exact ⟨j + 1, m + y, by omega, by go_num, by go_num, hq1, hNA2, hG2⟩
      case measure => simp [intOf]; omega
    · have D := Lib.hid (show (cnt (.node k v l) d.toNat : Int) = m by
        have h := hG.out
        rw [List.take_of_length_le (by omega)] at h
        rw [V.out, h])
      have hge : l.length ≤ j := by omega
      clear hG V HH hs
      go_wp2
      go_ret
      exact ⟨retI D.out.symm, N3⟩
theorem doesC : ∀ n, DoesC n
  | 0 => fun w lo hi k v s l d hl => absurd hl (Nat.not_lt_zero _)
  | n + 1 => fun w lo hi k v s l d hl hm hs h1 h2 h3 => count_step n (doesC n) w lo hi k v s l d (Nat.le_of_lt_succ hl) hm hs h1 h2 h3
set_option maxHeartbeats 1000000 in
theorem l2Right {w : World} {lo hi : Nat} {a a' : Option Addr} {nv c na c' : Nat} {tc : Value} {k v : Int} {s : Value} {l : List Ex} (hm : Ex.sizes l + 1 ≤ 2097152) (hs : KidsR w lo hi s l) (h1 : hi ≤ w.heap.size) (hnv : nv ≤ 9223372036854775807) (hna : na ≤ 9223372036854775807) :
    Calls Try.prog 142 #[.agg #[.slice a nv c, .slice a' na c', tc], .agg #[.int .i64 k, .int .i64 v, s]] w fun e w' => e = .returned (.bool (right nv na (.node k v l))) ∧ New w w' := by
  go_enter Try.func142, Try.ntmps142
  go_wp2_with fail
  have N0 : New w ((w.alloc (.cells #[.slice a nv c, .slice a' na c', tc] 90)).alloc (.cells #[.int .i64 k, .int .i64 v, s] 147)) := (((Kp.refl _ _).alloc _).alloc _)
  have bA_0 : ((w.alloc (.cells #[.slice a nv c, .slice a' na c', tc] 90)).alloc (.cells #[.int .i64 k, .int .i64 v, s] 147)).heap[w.heap.size]? = some (.cells #[.slice a nv c, .slice a' na c', tc] 90) := heap_old (alloc_heap _ _)
  have bB_0 : ((w.alloc (.cells #[.slice a nv c, .slice a' na c', tc] 90)).alloc (.cells #[.int .i64 k, .int .i64 v, s] 147)).heap[w.heap.size + 1]? = some (.cells #[.int .i64 k, .int .i64 v, s] 147) := heap_at (by simp)
  have z0 : w.heap.size + 1 < ((w.alloc (.cells #[.slice a nv c, .slice a' na c', tc] 90)).alloc (.cells #[.int .i64 k, .int .i64 v, s] 147)).heap.size := by simp
  generalize ((w.alloc (.cells #[.slice a nv c, .slice a' na c', tc] 90)).alloc (.cells #[.int .i64 k, .int .i64 v, s] 147)) = w0 at *
  have bA_0_c0 := cell_of_heap bA_0 0
  have bA_0_c1 := cell_of_heap bA_0 1
  have bA_0_c2 := cell_of_heap bA_0 2
  have bB_0_c0 := cell_of_heap bB_0 0
  have bB_0_c1 := cell_of_heap bB_0 1
  have bB_0_c2 := cell_of_heap bB_0 2
  refine (does _ _ lo hi _ _ _ _ _ _ _ _ _ _ _ 5 (Nat.lt_succ_self _) (hs.new h1 N0) (by omega) (by omega) (by omega) hnv hna).mono ?_
  rintro e w1 ⟨rfl, hn1⟩
  have z1 : w0.heap.size ≤ w1.heap.size := hn1.size
  have N1 : New w w1 := N0.trans hn1
  have bA_1 := heap_new hn1 bA_0
  have bB_1 := heap_new hn1 bB_0
  clear bA_0_c0 bA_0_c1 bA_0_c2 bB_0_c0 bB_0_c1 bB_0_c2
  clear bA_0 bB_0 hn1
  have bA_1_c0 := cell_of_heap bA_1 0
  have bA_1_c1 := cell_of_heap bA_1 1
  have bA_1_c2 := cell_of_heap bA_1 2
  have bB_1_c0 := cell_of_heap bB_1 0
  have bB_1_c1 := cell_of_heap bB_1 1
  have bB_1_c2 := cell_of_heap bB_1 2
  rw [show (5 : Int).toNat = 5 from rfl]
  have U := Lib.hid (show right nv na (.node k v l) = (shp nv na (.node k v l) 5 && decide (cnt (.node k v l) 5 ≤ 15)) from rfl)
  cases hp : shp nv na (.node k v l) 5
  · have D := Lib.hid (show right nv na (.node k v l) = false by rw [U.out, hp]; rfl)
    clear U hp
    go_wp2
    go_ret
    exact ⟨retB D.out.symm, N1⟩
  have V := Lib.hid (show right nv na (.node k v l) = decide ((cnt (.node k v l) 5 : Int) ≤ 15) by
    rw [U.out, hp]; rw [Bool.eq_iff_iff]; simp; omega)
  clear U hp
  go_wp2_with fail
  refine (doesC _ _ lo hi _ _ _ _ 5 (Nat.lt_succ_self _) hm (hs.new h1 N1) (by omega) (by omega) (by omega)).mono ?_
  rintro e w2 ⟨rfl, hn2⟩
  have z2 : w1.heap.size ≤ w2.heap.size := hn2.size
  have N2 : New w w2 := N1.trans hn2
  have bA_2 := heap_new hn2 bA_1
  have bB_2 := heap_new hn2 bB_1
  clear bA_1_c0 bA_1_c1 bA_1_c2 bB_1_c0 bB_1_c1 bB_1_c2
  clear bA_1 bB_1 hn2
  rw [show (5 : Int).toNat = 5 from rfl]
  generalize cnt (.node k v l) 5 = m at *
  go_wp2
  go_ret
  exact ⟨retB V.out.symm, N2⟩
end Go.Proofs.Ytljokgoghphgdaa.ShapeV
