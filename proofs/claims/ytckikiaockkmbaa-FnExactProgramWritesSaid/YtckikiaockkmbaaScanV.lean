/- operands, isPlain, scan, expr of impl. No conditions beyond the sizes. -/
import Derived.Test.YtckikiaockkmbaaVal
import Derived.Test.YtckikiaockkmbaaMany
import Derived.Test.YtckikiaockkmbaaSzE
import Derived.StillTailTactics
import Derived.Deep.QuietTactic
import Derived.BigQuiet
import Derived.Deep.RegionHeld3
import Derived.Test.YtckikiaockkmbaaShort
namespace Go.Proofs.Ytckikiaockkmbaa.ScanV
open Go.RowKit Kit Val
set_option linter.unusedVariables false
set_option maxHeartbeats 1000000 in
theorem operands {w : World} (k : Int) : Calls Try.prog 158 #[.int .i64 k] w fun e w' => e = .returned (.int .i64 (arity k)) ∧ w = w' := by
  by_cases h1 : k = 1
  · subst h1
    have D := Lib.hid (show arity 1 = 0 from rfl)
    go_enter Try.func158, Try.ntmps158
    go_wp2
    go_ret
    exact ⟨retI D.out.symm, rfl⟩
  by_cases h2 : k = 2
  · subst h2
    clear h1
    have D := Lib.hid (show arity 2 = 0 from rfl)
    go_enter Try.func158, Try.ntmps158
    go_wp2
    go_ret
    exact ⟨retI D.out.symm, rfl⟩
  by_cases h3 : k = 3
  · subst h3
    clear h1 h2
    have D := Lib.hid (show arity 3 = 1 from rfl)
    go_enter Try.func158, Try.ntmps158
    go_wp2
    go_ret
    exact ⟨retI D.out.symm, rfl⟩
  by_cases h4 : 4 ≤ k
  rotate_left
  · have e1 : (k == 1) = false := by simp [h1]
    have e2 : (k == 2) = false := by simp [h2]
    have e3 : (k == 3) = false := by simp [h3]
    have hin : Lab.inside k 4 10 = false := by simp [Lab.inside]; omega
    have D := Lib.hid (show arity k = -1 by unfold arity; repeat (first | rw [if_neg (by omega)] | rw [if_pos (by omega)]))
    have e11 : (k == 11) = false := by simp; omega
    clear h1 h2 h3
    go_enter Try.func158, Try.ntmps158
    go_wp2_with fail
    refine (Lab.within _ _ _ _).mono ?_
    rintro e w1 ⟨rfl, rfl⟩
    rw [hin]
    clear hin
    go_wp2
    go_ret
    exact ⟨retI D.out.symm, rfl⟩
  by_cases h10 : k ≤ 10
  · have e1 : (k == 1) = false := by simp [h1]
    have e2 : (k == 2) = false := by simp [h2]
    have e3 : (k == 3) = false := by simp [h3]
    have hin : Lab.inside k 4 10 = true := by simp [Lab.inside]; omega
    have D := Lib.hid (show arity k = 2 by unfold arity; repeat (first | rw [if_neg (by omega)] | rw [if_pos (by omega)]))
    clear h1 h2 h3
    go_enter Try.func158, Try.ntmps158
    go_wp2_with fail
    refine (Lab.within _ _ _ _).mono ?_
    rintro e w1 ⟨rfl, rfl⟩
    rw [hin]
    clear hin
    go_wp2
    go_ret
    exact ⟨retI D.out.symm, rfl⟩
  by_cases h11 : k = 11
  · subst h11
    have hin : Lab.inside 11 4 10 = false := by simp [Lab.inside]
    have D := Lib.hid (show arity 11 = 3 from rfl)
    clear h1 h2 h3 h4 h10
    go_enter Try.func158, Try.ntmps158
    go_wp2_with fail
    refine (Lab.within _ _ _ _).mono ?_
    rintro e w1 ⟨rfl, rfl⟩
    rw [hin]
    clear hin
    go_wp2
    go_ret
    exact ⟨retI D.out.symm, rfl⟩
  have e1 : (k == 1) = false := by simp [h1]
  have e2 : (k == 2) = false := by simp [h2]
  have e3 : (k == 3) = false := by simp [h3]
  have hin : Lab.inside k 4 10 = false := by simp [Lab.inside]; omega
  have D := Lib.hid (show arity k = -1 by unfold arity; repeat (first | rw [if_neg (by omega)] | rw [if_pos (by omega)]))
  have e11 : (k == 11) = false := by simp [h11]
  clear h1 h2 h3
  go_enter Try.func158, Try.ntmps158
  go_wp2_with fail
  refine (Lab.within _ _ _ _).mono ?_
  rintro e w1 ⟨rfl, rfl⟩
  rw [hin]
  clear hin
  go_wp2
  go_ret
  exact ⟨retI D.out.symm, rfl⟩
set_option maxHeartbeats 1000000 in
theorem isPlain {w : World} (k v : Int) (s : Value) : Calls Try.prog 153 #[.agg #[.int .i64 k, .int .i64 v, s]] w fun e w' => e = .returned (.bool (k == 1 || k == 2)) ∧ New w w' := by
  cases h1 : (k == 1)
  · go_enter Try.func153, Try.ntmps153
    go_wp2
    go_ret
    exact ⟨retB (by simp), (Kp.refl _ _).alloc _⟩
  · go_enter Try.func153, Try.ntmps153
    go_wp2
    go_ret
    exact ⟨retB (by simp), (Kp.refl _ _).alloc _⟩
theorem limit_hi (nv na : Nat) (k v : Int) : (decide (0 ≤ v) && decide (v < limit nv na k)) = Lab.inside v 0 (limit nv na k - 1) := by rw [Bool.eq_iff_iff]; simp [Lab.inside]; omega
/-- block bc holds the count c -/
def Cnt (w : World) (bc : Nat) (c : Int) : Prop := w.heap[bc]? = some (.cells #[.int .i64 c] 3 (0, 0))
def Does (n : Nat) : Prop := ∀ (w : World) (lo hi : Nat) (a a' : Option Addr) (nv c na c' : Nat) (tc : Value) (k v : Int) (s : Value) (l : List Ex) (d : Int) (bc : Nat) (q : Int), Ex.sizes l < n → KidsR w lo hi s l → hi ≤ w.heap.size → 1 ≤ d → d ≤ 6 → nv ≤ 9223372036854775807 → na ≤ 9223372036854775807 → Cnt w bc q → 0 ≤ q → q ≤ 15 → (bc < lo ∨ hi ≤ bc) →
  Calls Try.prog 136 #[.agg #[.slice a nv c, .slice a' na c', tc], .agg #[.int .i64 k, .int .i64 v, s], .int .i64 d, .pointer (some ⟨bc, 0, none⟩)] w fun e w' => e = .returned (.bool (scanB nv na (.node k v l) (6 - d).toNat q.toNat)) ∧ One bc w w' ∧ ∃ q', Cnt w' bc q' ∧ (scanB nv na (.node k v l) (6 - d).toNat q.toNat = true → q' = q + (Ex.node k v l).size)
set_option maxHeartbeats 8000000 in
set_option maxRecDepth 100000 in
theorem scan_step (n : Nat) (H : Does n) (w : World) (lo hi : Nat) (a a' : Option Addr) (nv c na c' : Nat) (tc : Value) (k v : Int) (s : Value) (l : List Ex) (d : Int) (bc : Nat) (q : Int) (hl : Ex.sizes l ≤ n) (hs : KidsR w lo hi s l) (h1 : hi ≤ w.heap.size) (hd0 : 1 ≤ d) (hd6 : d ≤ 6) (hnv : nv ≤ 9223372036854775807) (hna : na ≤ 9223372036854775807) (hq : Cnt w bc q) (hq0 : 0 ≤ q) (hq15 : q ≤ 15) (hbc : bc < lo ∨ hi ≤ bc) :
    Calls Try.prog 136 #[.agg #[.slice a nv c, .slice a' na c', tc], .agg #[.int .i64 k, .int .i64 v, s], .int .i64 d, .pointer (some ⟨bc, 0, none⟩)] w fun e w' => e = .returned (.bool (scanB nv na (.node k v l) (6 - d).toNat q.toNat)) ∧ One bc w w' ∧ ∃ q', Cnt w' bc q' ∧ (scanB nv na (.node k v l) (6 - d).toNat q.toNat = true → q' = q + (Ex.node k v l).size) := by
  obtain ⟨a2, c2, rfl, hl1⟩ := hs.len
  have HH := Lib.hid H; clear H
  have hbl := heap_lt hq
  have cq := cell_of_heap hq 0
  have fq := frozen_of_heap hq 0
  go_enter Try.func136, Try.ntmps136
  go_wp2_with fail
  have N0 : One bc w (((w.setCell ⟨bc, 0, none⟩ (.int .i64 (q + 1))).alloc (.cells #[.slice a nv c, .slice a' na c', tc] 37)).alloc (.cells #[.int .i64 k, .int .i64 v, .slice a2 l.length c2] 58)) := ((Kp.setCell (Kp.refl (fun x => x = bc) w) (.inl rfl) _).alloc _).alloc _
  have bA_0 : (((w.setCell ⟨bc, 0, none⟩ (.int .i64 (q + 1))).alloc (.cells #[.slice a nv c, .slice a' na c', tc] 37)).alloc (.cells #[.int .i64 k, .int .i64 v, .slice a2 l.length c2] 58)).heap[w.heap.size]? = some (.cells #[.slice a nv c, .slice a' na c', tc] 37) := heap_old (heap_at (World.size_setCell _ _ _))
  have bB_0 : (((w.setCell ⟨bc, 0, none⟩ (.int .i64 (q + 1))).alloc (.cells #[.slice a nv c, .slice a' na c', tc] 37)).alloc (.cells #[.int .i64 k, .int .i64 v, .slice a2 l.length c2] 58)).heap[w.heap.size + 1]? = some (.cells #[.int .i64 k, .int .i64 v, .slice a2 l.length c2] 58) := heap_at (by simp)
  have Q0 : Cnt (((w.setCell ⟨bc, 0, none⟩ (.int .i64 (q + 1))).alloc (.cells #[.slice a nv c, .slice a' na c', tc] 37)).alloc (.cells #[.int .i64 k, .int .i64 v, .slice a2 l.length c2] 58)) bc (q + 1) := heap_old (heap_old (setCell_heap hq _))
  have z0 : w.heap.size + 1 < (((w.setCell ⟨bc, 0, none⟩ (.int .i64 (q + 1))).alloc (.cells #[.slice a nv c, .slice a' na c', tc] 37)).alloc (.cells #[.int .i64 k, .int .i64 v, .slice a2 l.length c2] 58)).heap.size := by simp
  clear hq cq fq
  generalize (((w.setCell ⟨bc, 0, none⟩ (.int .i64 (q + 1))).alloc (.cells #[.slice a nv c, .slice a' na c', tc] 37)).alloc (.cells #[.int .i64 k, .int .i64 v, .slice a2 l.length c2] 58)) = w0 at *
  have cQ := cell_of_heap Q0 0
  obtain ⟨bA_0_c0, bA_0_c1, bA_0_c2⟩ := cells3 bA_0
  obtain ⟨bB_0_c0, bB_0_c1, bB_0_c2⟩ := cells3 bB_0
  have U := Lib.hid (show shp nv na (.node k v l) (6 - d).toNat = (decide (1 ≤ (6 - d).toNat) && decide ((l.length : Int) = arity k) && decide (0 ≤ v) && decide (v < limit nv na k) && shps nv na l ((6 - d).toNat - 1) && (!(k == 3) || atom0 l)) by rw [shp])
  have SB := Lib.hid (show scanB nv na (.node k v l) (6 - d).toNat q.toNat = (shp nv na (.node k v l) (6 - d).toNat && decide (q.toNat + (Ex.node k v l).size ≤ 15)) from rfl)
  have SZ := Lib.hid (show (Ex.node k v l).size = Ex.sizes l + 1 by rw [Ex.size])
  by_cases g0 : 15 < q + 1
  · have D := Lib.hid (show scanB nv na (.node k v l) (6 - d).toNat q.toNat = false by
      have e : decide (q.toNat + (Ex.node k v l).size ≤ 15) = false := by rw [decide_eq_false_iff_not, SZ.out]; omega
      rw [SB.out, e]; simp)
    refine wp_region_held_drew (S := fun w' => w'.cell? ⟨bc, 0, none⟩ = some (.int .i64 (q + 1)) ∧ w'.cell? ⟨w.heap.size, 0, none⟩ = some (.slice a nv c) ∧ w'.cell? ⟨w.heap.size, 1, none⟩ = some (.slice a' na c') ∧ w'.cell? ⟨w.heap.size, 2, none⟩ = some (tc) ∧ w'.cell? ⟨w.heap.size + 1, 0, none⟩ = some (.int .i64 k) ∧ w'.cell? ⟨w.heap.size + 1, 1, none⟩ = some (.int .i64 v) ∧ w'.cell? ⟨w.heap.size + 1, 2, none⟩ = some (.slice a2 l.length c2)) (by kernel_rfl) ?_ (fun hHeld => ?_)
    · exact ⟨cQ, bA_0_c0, bA_0_c1, bA_0_c2, bB_0_c0, bB_0_c1, bB_0_c2⟩
    refine HT 0 rfl ?_
    try simp only [AP]
    refine HT 1 rfl ?_
    try simp only [AP]
    refine HT 2 rfl ?_
    try simp only [AP]
    refine HT 3 rfl ?_
    try simp only [AP]
    refine HT 4 rfl ?_
    try simp only [AP]
    refine HS 5 rfl ?_
    try simp only [AP]
    refine HS 6 rfl ?_
    try simp only [AP]
    refine HT 7 rfl ?_
    try simp only [AP]
    refine HT 8 rfl ?_
    try simp only [AP]
    refine HS 9 rfl ?_
    try simp only [AP]
    refine HS 10 rfl ?_
    try simp only [AP]
    refine HS 11 rfl ?_
    try simp only [AP]
    refine HS 12 rfl ?_
    try simp only [AP]
    refine HS 13 rfl ?_
    try simp only [AP]
    refine HS 14 rfl ?_
    try simp only [AP]
    refine HS 15 rfl ?_
    try simp only [AP]
    refine HT 16 rfl ?_
    try simp only [AP]
    refine wpAnyH_done (by kernel_rfl) ?_ _
    go_wp2
    go_ret
    exact ⟨retB D.out.symm, N0.drew, _, Q0, fun h => absurd (h.symm.trans D.out) (by decide)⟩
  have g0b : q + 1 ≤ 15 := by omega
  have g0c : decide (15 < q + 1) = false := by rw [decide_eq_false_iff_not]; exact g0
  clear g0
  by_cases g1 : 5 < d
  · have D := Lib.hid (show scanB nv na (.node k v l) (6 - d).toNat q.toNat = false by
      have e : decide (1 ≤ (6 - d).toNat) = false := by rw [decide_eq_false_iff_not]; omega
      rw [SB.out, U.out, e]; rfl)
    refine wp_region_held_drew (S := fun w' => w'.cell? ⟨bc, 0, none⟩ = some (.int .i64 (q + 1)) ∧ w'.cell? ⟨w.heap.size, 0, none⟩ = some (.slice a nv c) ∧ w'.cell? ⟨w.heap.size, 1, none⟩ = some (.slice a' na c') ∧ w'.cell? ⟨w.heap.size, 2, none⟩ = some (tc) ∧ w'.cell? ⟨w.heap.size + 1, 0, none⟩ = some (.int .i64 k) ∧ w'.cell? ⟨w.heap.size + 1, 1, none⟩ = some (.int .i64 v) ∧ w'.cell? ⟨w.heap.size + 1, 2, none⟩ = some (.slice a2 l.length c2)) (by kernel_rfl) ?_ (fun hHeld => ?_)
    · exact ⟨cQ, bA_0_c0, bA_0_c1, bA_0_c2, bB_0_c0, bB_0_c1, bB_0_c2⟩
    refine HT 0 rfl ?_
    try simp only [AP]
    refine HT 1 rfl ?_
    try simp only [AP]
    refine HT 2 rfl ?_
    try simp only [AP]
    refine HT 3 rfl ?_
    try simp only [AP]
    refine HT 4 rfl ?_
    try simp only [AP]
    refine HT 5 rfl ?_
    try simp only [AP]
    refine HT 6 rfl ?_
    try simp only [AP]
    refine HT 7 rfl ?_
    try simp only [AP]
    refine HT 8 rfl ?_
    try simp only [AP]
    refine HS 9 rfl ?_
    try simp only [AP]
    refine HS 10 rfl ?_
    try simp only [AP]
    refine HS 11 rfl ?_
    try simp only [AP]
    refine HS 12 rfl ?_
    try simp only [AP]
    refine HS 13 rfl ?_
    try simp only [AP]
    refine HS 14 rfl ?_
    try simp only [AP]
    refine HS 15 rfl ?_
    try simp only [AP]
    refine HT 16 rfl ?_
    try simp only [AP]
    refine wpAnyH_done (by kernel_rfl) ?_ _
    go_wp2
    go_ret
    exact ⟨retB D.out.symm, N0.drew, _, Q0, fun h => absurd (h.symm.trans D.out) (by decide)⟩
  have g1b : d ≤ 5 := by omega
  have g1c : decide (5 < d) = false := by rw [decide_eq_false_iff_not]; exact g1
  clear g1
  by_cases g2 : (l.length : Int) = arity k
  rotate_left
  · have D := Lib.hid (show scanB nv na (.node k v l) (6 - d).toNat q.toNat = false by
      have e : decide ((l.length : Int) = arity k) = false := by rw [decide_eq_false_iff_not]; exact g2
      rw [SB.out, U.out, e]; simp)
    have e2 : (arity k != (l.length : Int)) = true := by rw [bne_iff_ne]; exact fun h => g2 h.symm
    clear g2
    refine wp_region_held_drew (S := fun w' => w'.cell? ⟨bc, 0, none⟩ = some (.int .i64 (q + 1)) ∧ w'.cell? ⟨w.heap.size, 0, none⟩ = some (.slice a nv c) ∧ w'.cell? ⟨w.heap.size, 1, none⟩ = some (.slice a' na c') ∧ w'.cell? ⟨w.heap.size, 2, none⟩ = some (tc) ∧ w'.cell? ⟨w.heap.size + 1, 0, none⟩ = some (.int .i64 k) ∧ w'.cell? ⟨w.heap.size + 1, 1, none⟩ = some (.int .i64 v) ∧ w'.cell? ⟨w.heap.size + 1, 2, none⟩ = some (.slice a2 l.length c2)) (by kernel_rfl) ?_ (fun hHeld => ?_)
    · exact ⟨cQ, bA_0_c0, bA_0_c1, bA_0_c2, bB_0_c0, bB_0_c1, bB_0_c2⟩
    refine HT 0 rfl ?_
    try simp only [AP]
    refine HT 1 rfl ?_
    try simp only [AP]
    refine HT 2 rfl ?_
    try simp only [AP]
    refine HT 3 rfl ?_
    try simp only [AP]
    refine HT 4 rfl ?_
    try simp only [AP]
    refine HT 5 rfl ?_
    try simp only [AP]
    refine HT 6 rfl ?_
    try simp only [AP]
    refine HT 7 rfl ?_
    try simp only [AP]
    refine HT 8 rfl ?_
    try simp only [AP]
    refine HT 9 rfl ?_
    try simp only [AP]
    refine HT 10 rfl ?_
    try simp only [AP]
    refine HT 12 rfl ?_
    try simp only [AP]
    refine HT 13 rfl ?_
    try simp only [AP]
    refine HT 14 rfl ?_
    try simp only [AP]
    refine HR 11 rfl fun K hK => ?_
    go_simp
    refine (operands k).mono ?_
    rintro e w' ⟨rfl, rfl⟩
    go_simp
    refine hK.out _ _ ?_ (fun hHeld2 => ?_)
    · exact ⟨cQ, bA_0_c0, bA_0_c1, bA_0_c2, bB_0_c0, bB_0_c1, bB_0_c2⟩
    clear hK K hHeld
    have hHeld := hHeld2
    clear hHeld2
    try simp only [AP]
    refine HT 15 rfl ?_
    try simp only [AP]
    refine HT 16 rfl ?_
    try simp only [AP]
    refine wpAnyH_done (by kernel_rfl) ?_ _
    go_wp2
    go_ret
    exact ⟨retB D.out.symm, N0.drew, _, Q0, fun h => absurd (h.symm.trans D.out) (by decide)⟩
  have G2 := Lib.hid g2
  have e2 : (arity k != (l.length : Int)) = false := by rw [bne_eq_false_iff_eq]; exact g2.symm
  have ar3 : l.length ≤ 3 := by have : arity k ≤ 3 := (by unfold arity; repeat' split <;> omega); omega
  clear g2
  refine wp_region_held_drew (S := fun w' => w'.cell? ⟨bc, 0, none⟩ = some (.int .i64 (q + 1)) ∧ w'.cell? ⟨w.heap.size, 0, none⟩ = some (.slice a nv c) ∧ w'.cell? ⟨w.heap.size, 1, none⟩ = some (.slice a' na c') ∧ w'.cell? ⟨w.heap.size, 2, none⟩ = some (tc) ∧ w'.cell? ⟨w.heap.size + 1, 0, none⟩ = some (.int .i64 k) ∧ w'.cell? ⟨w.heap.size + 1, 1, none⟩ = some (.int .i64 v) ∧ w'.cell? ⟨w.heap.size + 1, 2, none⟩ = some (.slice a2 l.length c2)) (by kernel_rfl) ?_ (fun hHeld => ?_)
  · exact ⟨cQ, bA_0_c0, bA_0_c1, bA_0_c2, bB_0_c0, bB_0_c1, bB_0_c2⟩
  refine HT 0 rfl ?_
  try simp only [AP]
  refine HT 1 rfl ?_
  try simp only [AP]
  refine HT 2 rfl ?_
  try simp only [AP]
  refine HT 3 rfl ?_
  try simp only [AP]
  refine HT 4 rfl ?_
  try simp only [AP]
  refine HT 5 rfl ?_
  try simp only [AP]
  refine HT 6 rfl ?_
  try simp only [AP]
  refine HT 7 rfl ?_
  try simp only [AP]
  refine HT 8 rfl ?_
  try simp only [AP]
  refine HT 9 rfl ?_
  try simp only [AP]
  refine HT 10 rfl ?_
  try simp only [AP]
  refine HT 12 rfl ?_
  try simp only [AP]
  refine HT 13 rfl ?_
  try simp only [AP]
  refine HT 14 rfl ?_
  try simp only [AP]
  refine HR 11 rfl fun K hK => ?_
  go_simp
  refine (operands k).mono ?_
  rintro e w' ⟨rfl, rfl⟩
  go_simp
  refine hK.out _ _ ?_ (fun hHeld2 => ?_)
  · exact ⟨cQ, bA_0_c0, bA_0_c1, bA_0_c2, bB_0_c0, bB_0_c1, bB_0_c2⟩
  clear hK K hHeld
  have hHeld := hHeld2
  clear hHeld2
  try simp only [AP]
  refine HT 15 rfl ?_
  try simp only [AP]
  refine HT 16 rfl ?_
  try simp only [AP]
  refine wpAnyH_done (by kernel_rfl) ?_ _
  clear g0c g1c e2
  have N1 : One bc w w0.drew := N0.drew
  have bA_1 : w0.drew.heap[w.heap.size]? = some (.cells #[.slice a nv c, .slice a' na c', tc] 37) := bA_0
  have bB_1 : w0.drew.heap[w.heap.size + 1]? = some (.cells #[.int .i64 k, .int .i64 v, .slice a2 l.length c2] 58) := bB_0
  have Q1 : Cnt w0.drew bc (q + 1) := Q0
  have z1 : w.heap.size + 1 < w0.drew.heap.size := by simpa using z0
  clear bA_0_c0 bA_0_c1 bA_0_c2 bB_0_c0 bB_0_c1 bB_0_c2 cQ N0 bA_0 bB_0 Q0 z0 hHeld
  generalize w0.drew = w1 at *
  obtain ⟨bA_1_c0, bA_1_c1, bA_1_c2⟩ := cells3 bA_1
  obtain ⟨bB_1_c0, bB_1_c1, bB_1_c2⟩ := cells3 bB_1
  have LH := Lib.hid (limit_hi nv na k v)
  by_cases k1 : k = 1
  · have e1 : (k == 1) = true := by simp [k1]
    have e3 : (k == 3) = false := by simp [k1]
    have hL := Lib.hid (show limit nv na k - 1 = 255 by rw [k1]; rfl)
    clear k1
    go_wp2_with fail
    refine (Lab.within _ _ _ _).mono ?_
    rintro e w' ⟨rfl, rfl⟩
    cases hin : Lab.inside v 0 (255)
    · have D := Lib.hid (show scanB nv na (.node k v l) (6 - d).toNat q.toNat = false by
        have e : (decide (0 ≤ v) && decide (v < limit nv na k)) = false := by rw [LH.out, hL.out]; exact hin
        rw [SB.out, U.out]
        rcases Bool.and_eq_false_iff.1 e with h | h <;> rw [h] <;> simp)
      clear hin HH
      go_wp2
      go_ret
      exact ⟨retB D.out.symm, N1, _, Q1, fun h => absurd (h.symm.trans D.out) (by decide)⟩
    have VL := Lib.hid (show (decide (0 ≤ v) && decide (v < limit nv na k)) = true by rw [LH.out, hL.out]; exact hin)
    clear hin
    have V := Lib.hid (show shp nv na (.node k v l) (6 - d).toNat = (shps nv na l ((6 - d).toNat - 1) && (!(k == 3) || atom0 l)) by
      have e0 : decide (1 ≤ (6 - d).toNat) = true := by rw [decide_eq_true_eq]; omega
      have e1 : decide ((l.length : Int) = arity k) = true := by rw [decide_eq_true_eq]; exact G2.out
      obtain ⟨e2, e3⟩ := (Bool.and_eq_true _ _).mp VL.out
      rw [U.out, e0, e1, e2, e3]; simp)
    clear U LH VL
    have V3 := Lib.hid (show shp nv na (.node k v l) (6 - d).toNat = shps nv na l ((6 - d).toNat - 1) by rw [V.out, e3]; simp)
    clear V
    clear hL
    go_wp2_with fail
    clear e3
    go_loopw [71] (fun i wr => ∃ (j : Nat) (m : Int), j ≤ l.length ∧ i = .int .i64 j ∧ One bc w1 wr ∧ Cnt wr bc m ∧ 0 ≤ m ∧ m ≤ 15 ∧ Hid (m = q + 1 + Ex.sizes (l.take j)) ∧ Hid (shps nv na (l.take j) ((6 - d).toNat - 1) = true)) (fun i _ => l.length - (intOf i).toNat)
    case atStart => exact ⟨0, q + 1, Nat.zero_le _, rfl, Kp.refl _ _, Q1, by omega, by omega, Lib.hid (by simp [Ex.sizes]), Lib.hid (by simp [shps])⟩
    case round =>
      obtain ⟨j, m, hj, rfl, hNA, hQ, hm0, hm15, hM, hG⟩ := hrel
      have N3 : One bc w wr := N1.trans (hNA.mono fun _ _ e => e)
      have hz3 := hNA.size
      have bA3 : wr.heap[w.heap.size]? = _ := (hNA.block _ (by omega) (by omega)).trans bA_1
      have bB3 : wr.heap[w.heap.size + 1]? = _ := (hNA.block _ (by omega) (by omega)).trans bB_1
      obtain ⟨cA0, cA1, cA2⟩ := cells3 bA3
      obtain ⟨cB0, cB1, cB2⟩ := cells3 bB3
      by_cases hlt : j < l.length
      · obtain ⟨b, o, s, e, hb1, hb2, c0, c1, c2, hs1⟩ := (hs.kp N3 h1 (fun x e => by omega)).at j hlt
        cases e
        have hsz : Ex.sizes l[j].kids < n := by have := Ex.kids_get l j hlt; omega
        have hbad := Lib.hid (scan_bad nv na ((6 - d).toNat - 1) (c := q.toNat) (m := m.toNat) hlt)
        have hT := Lib.hid (shps_take nv na ((6 - d).toNat - 1) hlt)
        have hT2 := Lib.hid (Ex.sizes_take_succ l j hlt)
        have hE := Lib.hid (show Ex.node l[j].kind l[j].val l[j].kids = l[j] by cases l[j]; rfl)
        have hE2 := Lib.hid (Ex.size_kids l[j])
        have hz : hi ≤ (wr.alloc (.cells #[.int .i64 l[j].kind, .int .i64 l[j].val, s] 58)).heap.size := by simp; omega
        have k1 := hs1.new (by omega) ((Kp.refl (fun _ => False) wr).alloc (.cells #[.int .i64 l[j].kind, .int .i64 l[j].val, s] 58))
        obtain ⟨sa, sc, rfl, _⟩ := k1.len
        have hbl : b < wr.heap.size := by omega
        have zA : w.heap.size < wr.heap.size := by omega
        have zB : w.heap.size + 1 < wr.heap.size := by omega
        have hQ1 : Cnt (wr.alloc (.cells #[.int .i64 l[j].kind, .int .i64 l[j].val, .slice sa l[j].kids.length sc] 58)) bc m := heap_old hQ
        clear hs hs1
        generalize l[j] = x at *
        go_wp2_with fail
        refine (HH.out _ lo hi _ _ _ _ _ _ _ _ _ _ _ (d + 1) bc m hsz k1 hz (by omega) (by omega) hnv hna hQ1 hm0 hm15 hbc).mono ?_
        rintro r w3 ⟨rfl, hn3, m', hQ3, hm3⟩
        have N4 : One bc w w3 := (N3.alloc _).trans (hn3.mono fun _ _ e => e)
        have hNA2 : One bc w1 w3 := (hNA.alloc _).trans (hn3.mono fun _ _ e => e)
        rw [show (6 - (d + 1)).toNat = (6 - d).toNat - 1 by omega, hE.out] at hm3 ⊢
        have hm4 := Lib.hid hm3
        clear hm3
        cases hp : scanB nv na x ((6 - d).toNat - 1) m.toNat
        · have D := Lib.hid (show scanB nv na (.node k v l) (6 - d).toNat q.toNat = false by
            rw [SB.out, V3.out, SZ.out]; exact hbad.out hp (by have := hM.out; omega))
          clear hbad hT hT2 hM hG hp HH hm4
          go_wp2
          go_ret
          exact ⟨retB D.out.symm, N4, _, hQ3, fun h => absurd (h.symm.trans D.out) (by decide)⟩
        · have hm5 := hm4.out hp
          have hsx : shp nv na x ((6 - d).toNat - 1) = true ∧ m.toNat + x.size ≤ 15 := by simpa [scanB] using hp
          have hG2 := Lib.hid (show shps nv na (l.take (j + 1)) ((6 - d).toNat - 1) = true by rw [hT.out, hG.out, hsx.1]; rfl)
          have hM2 := Lib.hid (show m' = q + 1 + Ex.sizes (l.take (j + 1)) by have := hM.out; have := hT2.out; have := hE2.out; omega)
          have h15 : m' ≤ 15 := by omega
          have h0 : 0 ≤ m' := by omega
          clear hbad hT hT2 hM hG hp hm4 hm5 hsx
          go_wp2
          go_roundw
          case rel => exact ⟨j + 1, m', by omega, by go_num, hNA2, hQ3, h0, h15, hM2, hG2⟩
          case measure => simp [intOf]; omega
      · have D := Lib.hid (show scanB nv na (.node k v l) (6 - d).toNat q.toNat = true by
          have h := hG.out
          rw [List.take_of_length_le (by omega)] at h
          have h2 := hM.out
          rw [List.take_of_length_le (by omega)] at h2
          rw [SB.out, V3.out, h, SZ.out]; simp; omega)
        have hfin := Lib.hid (show m = q + (Ex.node k v l).size by
          have h2 := hM.out
          rw [List.take_of_length_le (by omega)] at h2
          have := SZ.out; omega)
        have hge : l.length ≤ j := by omega
        clear hG hM V3 HH hs
        go_wp2
        go_ret
        exact ⟨retB D.out.symm, N3, m, hQ, fun _ => hfin.out⟩
  have e1 : (k == 1) = false := by simp [k1]
  by_cases k2 : k = 2
  · have e2 : (k == 2) = true := by simp [k2]
    have e3 : (k == 3) = false := by simp [k2]
    have hL := Lib.hid (show limit nv na k - 1 = (nv : Int) - 1 by rw [k2]; rfl)
    clear k1 k2
    go_wp2_with fail
    refine (Lab.within _ _ _ _).mono ?_
    rintro e w' ⟨rfl, rfl⟩
    cases hin : Lab.inside v 0 ((nv : Int) - 1)
    · have D := Lib.hid (show scanB nv na (.node k v l) (6 - d).toNat q.toNat = false by
        have e : (decide (0 ≤ v) && decide (v < limit nv na k)) = false := by rw [LH.out, hL.out]; exact hin
        rw [SB.out, U.out]
        rcases Bool.and_eq_false_iff.1 e with h | h <;> rw [h] <;> simp)
      clear hin HH
      go_wp2
      go_ret
      exact ⟨retB D.out.symm, N1, _, Q1, fun h => absurd (h.symm.trans D.out) (by decide)⟩
    have VL := Lib.hid (show (decide (0 ≤ v) && decide (v < limit nv na k)) = true by rw [LH.out, hL.out]; exact hin)
    clear hin
    have V := Lib.hid (show shp nv na (.node k v l) (6 - d).toNat = (shps nv na l ((6 - d).toNat - 1) && (!(k == 3) || atom0 l)) by
      have e0 : decide (1 ≤ (6 - d).toNat) = true := by rw [decide_eq_true_eq]; omega
      have e1 : decide ((l.length : Int) = arity k) = true := by rw [decide_eq_true_eq]; exact G2.out
      obtain ⟨e2, e3⟩ := (Bool.and_eq_true _ _).mp VL.out
      rw [U.out, e0, e1, e2, e3]; simp)
    clear U LH VL
    have V3 := Lib.hid (show shp nv na (.node k v l) (6 - d).toNat = shps nv na l ((6 - d).toNat - 1) by rw [V.out, e3]; simp)
    clear V
    clear hL
    go_wp2_with fail
    clear e3
    go_loopw [71] (fun i wr => ∃ (j : Nat) (m : Int), j ≤ l.length ∧ i = .int .i64 j ∧ One bc w1 wr ∧ Cnt wr bc m ∧ 0 ≤ m ∧ m ≤ 15 ∧ Hid (m = q + 1 + Ex.sizes (l.take j)) ∧ Hid (shps nv na (l.take j) ((6 - d).toNat - 1) = true)) (fun i _ => l.length - (intOf i).toNat)
    case atStart => exact ⟨0, q + 1, Nat.zero_le _, rfl, Kp.refl _ _, Q1, by omega, by omega, Lib.hid (by simp [Ex.sizes]), Lib.hid (by simp [shps])⟩
    case round =>
      obtain ⟨j, m, hj, rfl, hNA, hQ, hm0, hm15, hM, hG⟩ := hrel
      have N3 : One bc w wr := N1.trans (hNA.mono fun _ _ e => e)
      have hz3 := hNA.size
      have bA3 : wr.heap[w.heap.size]? = _ := (hNA.block _ (by omega) (by omega)).trans bA_1
      have bB3 : wr.heap[w.heap.size + 1]? = _ := (hNA.block _ (by omega) (by omega)).trans bB_1
      obtain ⟨cA0, cA1, cA2⟩ := cells3 bA3
      obtain ⟨cB0, cB1, cB2⟩ := cells3 bB3
      by_cases hlt : j < l.length
      · obtain ⟨b, o, s, e, hb1, hb2, c0, c1, c2, hs1⟩ := (hs.kp N3 h1 (fun x e => by omega)).at j hlt
        cases e
        have hsz : Ex.sizes l[j].kids < n := by have := Ex.kids_get l j hlt; omega
        have hbad := Lib.hid (scan_bad nv na ((6 - d).toNat - 1) (c := q.toNat) (m := m.toNat) hlt)
        have hT := Lib.hid (shps_take nv na ((6 - d).toNat - 1) hlt)
        have hT2 := Lib.hid (Ex.sizes_take_succ l j hlt)
        have hE := Lib.hid (show Ex.node l[j].kind l[j].val l[j].kids = l[j] by cases l[j]; rfl)
        have hE2 := Lib.hid (Ex.size_kids l[j])
        have hz : hi ≤ (wr.alloc (.cells #[.int .i64 l[j].kind, .int .i64 l[j].val, s] 58)).heap.size := by simp; omega
        have k1 := hs1.new (by omega) ((Kp.refl (fun _ => False) wr).alloc (.cells #[.int .i64 l[j].kind, .int .i64 l[j].val, s] 58))
        obtain ⟨sa, sc, rfl, _⟩ := k1.len
        have hbl : b < wr.heap.size := by omega
        have zA : w.heap.size < wr.heap.size := by omega
        have zB : w.heap.size + 1 < wr.heap.size := by omega
        have hQ1 : Cnt (wr.alloc (.cells #[.int .i64 l[j].kind, .int .i64 l[j].val, .slice sa l[j].kids.length sc] 58)) bc m := heap_old hQ
        clear hs hs1
        generalize l[j] = x at *
        go_wp2_with fail
        refine (HH.out _ lo hi _ _ _ _ _ _ _ _ _ _ _ (d + 1) bc m hsz k1 hz (by omega) (by omega) hnv hna hQ1 hm0 hm15 hbc).mono ?_
        rintro r w3 ⟨rfl, hn3, m', hQ3, hm3⟩
        have N4 : One bc w w3 := (N3.alloc _).trans (hn3.mono fun _ _ e => e)
        have hNA2 : One bc w1 w3 := (hNA.alloc _).trans (hn3.mono fun _ _ e => e)
        rw [show (6 - (d + 1)).toNat = (6 - d).toNat - 1 by omega, hE.out] at hm3 ⊢
        have hm4 := Lib.hid hm3
        clear hm3
        cases hp : scanB nv na x ((6 - d).toNat - 1) m.toNat
        · have D := Lib.hid (show scanB nv na (.node k v l) (6 - d).toNat q.toNat = false by
            rw [SB.out, V3.out, SZ.out]; exact hbad.out hp (by have := hM.out; omega))
          clear hbad hT hT2 hM hG hp HH hm4
          go_wp2
          go_ret
          exact ⟨retB D.out.symm, N4, _, hQ3, fun h => absurd (h.symm.trans D.out) (by decide)⟩
        · have hm5 := hm4.out hp
          have hsx : shp nv na x ((6 - d).toNat - 1) = true ∧ m.toNat + x.size ≤ 15 := by simpa [scanB] using hp
          have hG2 := Lib.hid (show shps nv na (l.take (j + 1)) ((6 - d).toNat - 1) = true by rw [hT.out, hG.out, hsx.1]; rfl)
          have hM2 := Lib.hid (show m' = q + 1 + Ex.sizes (l.take (j + 1)) by have := hM.out; have := hT2.out; have := hE2.out; omega)
          have h15 : m' ≤ 15 := by omega
          have h0 : 0 ≤ m' := by omega
          clear hbad hT hT2 hM hG hp hm4 hm5 hsx
          go_wp2
          go_roundw
          case rel => exact ⟨j + 1, m', by omega, by go_num, hNA2, hQ3, h0, h15, hM2, hG2⟩
          case measure => simp [intOf]; omega
      · have D := Lib.hid (show scanB nv na (.node k v l) (6 - d).toNat q.toNat = true by
          have h := hG.out
          rw [List.take_of_length_le (by omega)] at h
          have h2 := hM.out
          rw [List.take_of_length_le (by omega)] at h2
          rw [SB.out, V3.out, h, SZ.out]; simp; omega)
        have hfin := Lib.hid (show m = q + (Ex.node k v l).size by
          have h2 := hM.out
          rw [List.take_of_length_le (by omega)] at h2
          have := SZ.out; omega)
        have hge : l.length ≤ j := by omega
        clear hG hM V3 HH hs
        go_wp2
        go_ret
        exact ⟨retB D.out.symm, N3, m, hQ, fun _ => hfin.out⟩
  have e2 : (k == 2) = false := by simp [k2]
  by_cases k3 : k = 3
  · have e3 : (k == 3) = true := by simp [k3]
    have hL := Lib.hid (show limit nv na k - 1 = (na : Int) - 1 by rw [k3]; rfl)
    clear k1 k2 k3
    go_wp2_with fail
    refine (Lab.within _ _ _ _).mono ?_
    rintro e w' ⟨rfl, rfl⟩
    cases hin : Lab.inside v 0 ((na : Int) - 1)
    · have D := Lib.hid (show scanB nv na (.node k v l) (6 - d).toNat q.toNat = false by
        have e : (decide (0 ≤ v) && decide (v < limit nv na k)) = false := by rw [LH.out, hL.out]; exact hin
        rw [SB.out, U.out]
        rcases Bool.and_eq_false_iff.1 e with h | h <;> rw [h] <;> simp)
      clear hin HH
      go_wp2
      go_ret
      exact ⟨retB D.out.symm, N1, _, Q1, fun h => absurd (h.symm.trans D.out) (by decide)⟩
    have VL := Lib.hid (show (decide (0 ≤ v) && decide (v < limit nv na k)) = true by rw [LH.out, hL.out]; exact hin)
    clear hin
    have V := Lib.hid (show shp nv na (.node k v l) (6 - d).toNat = (shps nv na l ((6 - d).toNat - 1) && (!(k == 3) || atom0 l)) by
      have e0 : decide (1 ≤ (6 - d).toNat) = true := by rw [decide_eq_true_eq]; omega
      have e1 : decide ((l.length : Int) = arity k) = true := by rw [decide_eq_true_eq]; exact G2.out
      obtain ⟨e2, e3⟩ := (Bool.and_eq_true _ _).mp VL.out
      rw [U.out, e0, e1, e2, e3]; simp)
    clear U LH VL
    have hlen : 0 < l.length := by have := G2.out; have e := eq_of_beq e3; rw [e] at this; simp [arity] at this; omega
    obtain ⟨b, o, s, rfl, hb1, hb2, c0, c1, c2, hs1⟩ := (hs.kp N1 h1 (fun x e => by omega)).at 0 hlen
    have V2 := Lib.hid (show shp nv na (.node k v l) (6 - d).toNat = (shps nv na l ((6 - d).toNat - 1) && (l[0].kind == 1 || l[0].kind == 2)) by
      rw [V.out, e3]
      cases l with
      | nil => simp at hlen
      | cons x xs => rfl)
    rw [Nat.zero_mul, Nat.add_zero] at c0 c1 c2
    clear hs1 V
    generalize l[0] = x at *
    go_wp2_with fail
    refine (isPlain _ _ _).mono ?_
    rintro r w2 ⟨rfl, hn2⟩
    have N2 : One bc w w2 := N1.trans (hn2.mono fun _ _ f => f.elim)
    have z2 := hn2.size
    have bA_2 := heap_new hn2 bA_1
    have bB_2 := heap_new hn2 bB_1
    have Q2 : Cnt w2 bc (q + 1) := heap_new hn2 Q1
    clear bA_1_c0 bA_1_c1 bA_1_c2 bB_1_c0 bB_1_c1 bB_1_c2 bA_1 bB_1 Q1 hn2 c0 c1 c2
    obtain ⟨bA_2_c0, bA_2_c1, bA_2_c2⟩ := cells3 bA_2
    obtain ⟨bB_2_c0, bB_2_c1, bB_2_c2⟩ := cells3 bB_2
    cases hat : (x.kind == 1 || x.kind == 2)
    · have D := Lib.hid (show scanB nv na (.node k v l) (6 - d).toNat q.toNat = false by rw [SB.out, V2.out, hat]; simp)
      clear hat HH V2
      go_wp2
      go_ret
      exact ⟨retB D.out.symm, N2, _, Q2, fun h => absurd (h.symm.trans D.out) (by decide)⟩
    have V3 := Lib.hid (show shp nv na (.node k v l) (6 - d).toNat = shps nv na l ((6 - d).toNat - 1) by rw [V2.out, hat]; simp)
    clear hat V2
    clear hL
    go_wp2_with fail
    clear e3
    go_loopw [71] (fun i wr => ∃ (j : Nat) (m : Int), j ≤ l.length ∧ i = .int .i64 j ∧ One bc w2 wr ∧ Cnt wr bc m ∧ 0 ≤ m ∧ m ≤ 15 ∧ Hid (m = q + 1 + Ex.sizes (l.take j)) ∧ Hid (shps nv na (l.take j) ((6 - d).toNat - 1) = true)) (fun i _ => l.length - (intOf i).toNat)
    case atStart => exact ⟨0, q + 1, Nat.zero_le _, rfl, Kp.refl _ _, Q2, by omega, by omega, Lib.hid (by simp [Ex.sizes]), Lib.hid (by simp [shps])⟩
    case round =>
      obtain ⟨j, m, hj, rfl, hNA, hQ, hm0, hm15, hM, hG⟩ := hrel
      have N3 : One bc w wr := N2.trans (hNA.mono fun _ _ e => e)
      have hz3 := hNA.size
      have bA3 : wr.heap[w.heap.size]? = _ := (hNA.block _ (by omega) (by omega)).trans bA_2
      have bB3 : wr.heap[w.heap.size + 1]? = _ := (hNA.block _ (by omega) (by omega)).trans bB_2
      obtain ⟨cA0, cA1, cA2⟩ := cells3 bA3
      obtain ⟨cB0, cB1, cB2⟩ := cells3 bB3
      by_cases hlt : j < l.length
      · obtain ⟨b, o, s, e, hb1, hb2, c0, c1, c2, hs1⟩ := (hs.kp N3 h1 (fun x e => by omega)).at j hlt
        cases e
        have hsz : Ex.sizes l[j].kids < n := by have := Ex.kids_get l j hlt; omega
        have hbad := Lib.hid (scan_bad nv na ((6 - d).toNat - 1) (c := q.toNat) (m := m.toNat) hlt)
        have hT := Lib.hid (shps_take nv na ((6 - d).toNat - 1) hlt)
        have hT2 := Lib.hid (Ex.sizes_take_succ l j hlt)
        have hE := Lib.hid (show Ex.node l[j].kind l[j].val l[j].kids = l[j] by cases l[j]; rfl)
        have hE2 := Lib.hid (Ex.size_kids l[j])
        have hz : hi ≤ (wr.alloc (.cells #[.int .i64 l[j].kind, .int .i64 l[j].val, s] 58)).heap.size := by simp; omega
        have k1 := hs1.new (by omega) ((Kp.refl (fun _ => False) wr).alloc (.cells #[.int .i64 l[j].kind, .int .i64 l[j].val, s] 58))
        obtain ⟨sa, sc, rfl, _⟩ := k1.len
        have hbl : b < wr.heap.size := by omega
        have zA : w.heap.size < wr.heap.size := by omega
        have zB : w.heap.size + 1 < wr.heap.size := by omega
        have hQ1 : Cnt (wr.alloc (.cells #[.int .i64 l[j].kind, .int .i64 l[j].val, .slice sa l[j].kids.length sc] 58)) bc m := heap_old hQ
        clear hs hs1
        generalize l[j] = x at *
        go_wp2_with fail
        refine (HH.out _ lo hi _ _ _ _ _ _ _ _ _ _ _ (d + 1) bc m hsz k1 hz (by omega) (by omega) hnv hna hQ1 hm0 hm15 hbc).mono ?_
        rintro r w3 ⟨rfl, hn3, m', hQ3, hm3⟩
        have N4 : One bc w w3 := (N3.alloc _).trans (hn3.mono fun _ _ e => e)
        have hNA2 : One bc w2 w3 := (hNA.alloc _).trans (hn3.mono fun _ _ e => e)
        rw [show (6 - (d + 1)).toNat = (6 - d).toNat - 1 by omega, hE.out] at hm3 ⊢
        have hm4 := Lib.hid hm3
        clear hm3
        cases hp : scanB nv na x ((6 - d).toNat - 1) m.toNat
        · have D := Lib.hid (show scanB nv na (.node k v l) (6 - d).toNat q.toNat = false by
            rw [SB.out, V3.out, SZ.out]; exact hbad.out hp (by have := hM.out; omega))
          clear hbad hT hT2 hM hG hp HH hm4
          go_wp2
          go_ret
          exact ⟨retB D.out.symm, N4, _, hQ3, fun h => absurd (h.symm.trans D.out) (by decide)⟩
        · have hm5 := hm4.out hp
          have hsx : shp nv na x ((6 - d).toNat - 1) = true ∧ m.toNat + x.size ≤ 15 := by simpa [scanB] using hp
          have hG2 := Lib.hid (show shps nv na (l.take (j + 1)) ((6 - d).toNat - 1) = true by rw [hT.out, hG.out, hsx.1]; rfl)
          have hM2 := Lib.hid (show m' = q + 1 + Ex.sizes (l.take (j + 1)) by have := hM.out; have := hT2.out; have := hE2.out; omega)
          have h15 : m' ≤ 15 := by omega
          have h0 : 0 ≤ m' := by omega
          clear hbad hT hT2 hM hG hp hm4 hm5 hsx
          go_wp2
          go_roundw
          case rel => exact ⟨j + 1, m', by omega, by go_num, hNA2, hQ3, h0, h15, hM2, hG2⟩
          case measure => simp [intOf]; omega
      · have D := Lib.hid (show scanB nv na (.node k v l) (6 - d).toNat q.toNat = true by
          have h := hG.out
          rw [List.take_of_length_le (by omega)] at h
          have h2 := hM.out
          rw [List.take_of_length_le (by omega)] at h2
          rw [SB.out, V3.out, h, SZ.out]; simp; omega)
        have hfin := Lib.hid (show m = q + (Ex.node k v l).size by
          have h2 := hM.out
          rw [List.take_of_length_le (by omega)] at h2
          have := SZ.out; omega)
        have hge : l.length ≤ j := by omega
        clear hG hM V3 HH hs
        go_wp2
        go_ret
        exact ⟨retB D.out.symm, N3, m, hQ, fun _ => hfin.out⟩
  have e3 : (k == 3) = false := by simp [k3]
  have hL := Lib.hid (show limit nv na k - 1 = 0 by unfold limit; rw [if_neg k1, if_neg k2, if_neg k3]; rfl)
  clear k1 k2 k3
  go_wp2_with fail
  refine (Lab.within _ _ _ _).mono ?_
  rintro e w' ⟨rfl, rfl⟩
  cases hin : Lab.inside v 0 (0)
  · have D := Lib.hid (show scanB nv na (.node k v l) (6 - d).toNat q.toNat = false by
      have e : (decide (0 ≤ v) && decide (v < limit nv na k)) = false := by rw [LH.out, hL.out]; exact hin
      rw [SB.out, U.out]
      rcases Bool.and_eq_false_iff.1 e with h | h <;> rw [h] <;> simp)
    clear hin HH
    go_wp2
    go_ret
    exact ⟨retB D.out.symm, N1, _, Q1, fun h => absurd (h.symm.trans D.out) (by decide)⟩
  have VL := Lib.hid (show (decide (0 ≤ v) && decide (v < limit nv na k)) = true by rw [LH.out, hL.out]; exact hin)
  clear hin
  have V := Lib.hid (show shp nv na (.node k v l) (6 - d).toNat = (shps nv na l ((6 - d).toNat - 1) && (!(k == 3) || atom0 l)) by
    have e0 : decide (1 ≤ (6 - d).toNat) = true := by rw [decide_eq_true_eq]; omega
    have e1 : decide ((l.length : Int) = arity k) = true := by rw [decide_eq_true_eq]; exact G2.out
    obtain ⟨e2, e3⟩ := (Bool.and_eq_true _ _).mp VL.out
    rw [U.out, e0, e1, e2, e3]; simp)
  clear U LH VL
  have V3 := Lib.hid (show shp nv na (.node k v l) (6 - d).toNat = shps nv na l ((6 - d).toNat - 1) by rw [V.out, e3]; simp)
  clear V
  clear hL
  go_wp2_with fail
  clear e3
  go_loopw [71] (fun i wr => ∃ (j : Nat) (m : Int), j ≤ l.length ∧ i = .int .i64 j ∧ One bc w1 wr ∧ Cnt wr bc m ∧ 0 ≤ m ∧ m ≤ 15 ∧ Hid (m = q + 1 + Ex.sizes (l.take j)) ∧ Hid (shps nv na (l.take j) ((6 - d).toNat - 1) = true)) (fun i _ => l.length - (intOf i).toNat)
  case atStart => exact ⟨0, q + 1, Nat.zero_le _, rfl, Kp.refl _ _, Q1, by omega, by omega, Lib.hid (by simp [Ex.sizes]), Lib.hid (by simp [shps])⟩
  case round =>
    obtain ⟨j, m, hj, rfl, hNA, hQ, hm0, hm15, hM, hG⟩ := hrel
    have N3 : One bc w wr := N1.trans (hNA.mono fun _ _ e => e)
    have hz3 := hNA.size
    have bA3 : wr.heap[w.heap.size]? = _ := (hNA.block _ (by omega) (by omega)).trans bA_1
    have bB3 : wr.heap[w.heap.size + 1]? = _ := (hNA.block _ (by omega) (by omega)).trans bB_1
    obtain ⟨cA0, cA1, cA2⟩ := cells3 bA3
    obtain ⟨cB0, cB1, cB2⟩ := cells3 bB3
    by_cases hlt : j < l.length
    · obtain ⟨b, o, s, e, hb1, hb2, c0, c1, c2, hs1⟩ := (hs.kp N3 h1 (fun x e => by omega)).at j hlt
      cases e
      have hsz : Ex.sizes l[j].kids < n := by have := Ex.kids_get l j hlt; omega
      have hbad := Lib.hid (scan_bad nv na ((6 - d).toNat - 1) (c := q.toNat) (m := m.toNat) hlt)
      have hT := Lib.hid (shps_take nv na ((6 - d).toNat - 1) hlt)
      have hT2 := Lib.hid (Ex.sizes_take_succ l j hlt)
      have hE := Lib.hid (show Ex.node l[j].kind l[j].val l[j].kids = l[j] by cases l[j]; rfl)
      have hE2 := Lib.hid (Ex.size_kids l[j])
      have hz : hi ≤ (wr.alloc (.cells #[.int .i64 l[j].kind, .int .i64 l[j].val, s] 58)).heap.size := by simp; omega
      have k1 := hs1.new (by omega) ((Kp.refl (fun _ => False) wr).alloc (.cells #[.int .i64 l[j].kind, .int .i64 l[j].val, s] 58))
      obtain ⟨sa, sc, rfl, _⟩ := k1.len
      have hbl : b < wr.heap.size := by omega
      have zA : w.heap.size < wr.heap.size := by omega
      have zB : w.heap.size + 1 < wr.heap.size := by omega
      have hQ1 : Cnt (wr.alloc (.cells #[.int .i64 l[j].kind, .int .i64 l[j].val, .slice sa l[j].kids.length sc] 58)) bc m := heap_old hQ
      clear hs hs1
      generalize l[j] = x at *
      go_wp2_with fail
      refine (HH.out _ lo hi _ _ _ _ _ _ _ _ _ _ _ (d + 1) bc m hsz k1 hz (by omega) (by omega) hnv hna hQ1 hm0 hm15 hbc).mono ?_
      rintro r w3 ⟨rfl, hn3, m', hQ3, hm3⟩
      have N4 : One bc w w3 := (N3.alloc _).trans (hn3.mono fun _ _ e => e)
      have hNA2 : One bc w1 w3 := (hNA.alloc _).trans (hn3.mono fun _ _ e => e)
      rw [show (6 - (d + 1)).toNat = (6 - d).toNat - 1 by omega, hE.out] at hm3 ⊢
      have hm4 := Lib.hid hm3
      clear hm3
      cases hp : scanB nv na x ((6 - d).toNat - 1) m.toNat
      · have D := Lib.hid (show scanB nv na (.node k v l) (6 - d).toNat q.toNat = false by
          rw [SB.out, V3.out, SZ.out]; exact hbad.out hp (by have := hM.out; omega))
        clear hbad hT hT2 hM hG hp HH hm4
        go_wp2
        go_ret
        exact ⟨retB D.out.symm, N4, _, hQ3, fun h => absurd (h.symm.trans D.out) (by decide)⟩
      · have hm5 := hm4.out hp
        have hsx : shp nv na x ((6 - d).toNat - 1) = true ∧ m.toNat + x.size ≤ 15 := by simpa [scanB] using hp
        have hG2 := Lib.hid (show shps nv na (l.take (j + 1)) ((6 - d).toNat - 1) = true by rw [hT.out, hG.out, hsx.1]; rfl)
        have hM2 := Lib.hid (show m' = q + 1 + Ex.sizes (l.take (j + 1)) by have := hM.out; have := hT2.out; have := hE2.out; omega)
        have h15 : m' ≤ 15 := by omega
        have h0 : 0 ≤ m' := by omega
        clear hbad hT hT2 hM hG hp hm4 hm5 hsx
        go_wp2
        go_roundw
        case rel => exact ⟨j + 1, m', by omega, by go_num, hNA2, hQ3, h0, h15, hM2, hG2⟩
        case measure => simp [intOf]; omega
    · have D := Lib.hid (show scanB nv na (.node k v l) (6 - d).toNat q.toNat = true by
        have h := hG.out
        rw [List.take_of_length_le (by omega)] at h
        have h2 := hM.out
        rw [List.take_of_length_le (by omega)] at h2
        rw [SB.out, V3.out, h, SZ.out]; simp; omega)
      have hfin := Lib.hid (show m = q + (Ex.node k v l).size by
        have h2 := hM.out
        rw [List.take_of_length_le (by omega)] at h2
        have := SZ.out; omega)
      have hge : l.length ≤ j := by omega
      clear hG hM V3 HH hs
      go_wp2
      go_ret
      exact ⟨retB D.out.symm, N3, m, hQ, fun _ => hfin.out⟩
theorem does : ∀ n, Does n
  | 0 => fun w lo hi a a' nv c na c' tc k v s l d bc q hl => absurd hl (Nat.not_lt_zero _)
  | n + 1 => fun w lo hi a a' nv c na c' tc k v s l d bc q hl hs h1 h2 h3 h4 h5 h6 h7 h8 h9 => scan_step n (does n) w lo hi a a' nv c na c' tc k v s l d bc q (Nat.le_of_lt_succ hl) hs h1 h2 h3 h4 h5 h6 h7 h8 h9
set_option maxHeartbeats 1000000 in
theorem expr {w : World} {lo hi : Nat} {a a' : Option Addr} {nv c na c' : Nat} {tc : Value} {k v : Int} {s : Value} {l : List Ex} (hs : KidsR w lo hi s l) (h1 : hi ≤ w.heap.size) (hnv : nv ≤ 9223372036854775807) (hna : na ≤ 9223372036854775807) :
    Calls Try.prog 114 #[.agg #[.slice a nv c, .slice a' na c', tc], .agg #[.int .i64 k, .int .i64 v, s]] w fun e w' => e = .returned (.bool (right nv na (.node k v l))) ∧ New w w' := by
  go_enter Try.func114, Try.ntmps114
  go_wp2_with fail
  have N0 : New w (((w.alloc (.cells #[.slice a nv c, .slice a' na c', tc] 37)).alloc (.cells #[.int .i64 k, .int .i64 v, s] 58)).alloc (.cells #[.int .i64 0] 3)) := ((((Kp.refl _ _).alloc _).alloc _).alloc _)
  have bA_0 : (((w.alloc (.cells #[.slice a nv c, .slice a' na c', tc] 37)).alloc (.cells #[.int .i64 k, .int .i64 v, s] 58)).alloc (.cells #[.int .i64 0] 3)).heap[w.heap.size]? = some (.cells #[.slice a nv c, .slice a' na c', tc] 37) := heap_old (heap_old (alloc_heap _ _))
  have bB_0 : (((w.alloc (.cells #[.slice a nv c, .slice a' na c', tc] 37)).alloc (.cells #[.int .i64 k, .int .i64 v, s] 58)).alloc (.cells #[.int .i64 0] 3)).heap[w.heap.size + 1]? = some (.cells #[.int .i64 k, .int .i64 v, s] 58) := heap_old (heap_at (by simp))
  have bQ_0 : (((w.alloc (.cells #[.slice a nv c, .slice a' na c', tc] 37)).alloc (.cells #[.int .i64 k, .int .i64 v, s] 58)).alloc (.cells #[.int .i64 0] 3)).heap[w.heap.size + 1 + 1]? = some (.cells #[.int .i64 0] 3) := heap_at (by simp)
  have z0 : w.heap.size + 1 + 1 < (((w.alloc (.cells #[.slice a nv c, .slice a' na c', tc] 37)).alloc (.cells #[.int .i64 k, .int .i64 v, s] 58)).alloc (.cells #[.int .i64 0] 3)).heap.size := by simp
  generalize (((w.alloc (.cells #[.slice a nv c, .slice a' na c', tc] 37)).alloc (.cells #[.int .i64 k, .int .i64 v, s] 58)).alloc (.cells #[.int .i64 0] 3)) = w0 at *
  refine (does _ _ lo hi _ _ _ _ _ _ _ _ _ _ _ 1 (w.heap.size + 1 + 1) 0 (Nat.lt_succ_self _) (hs.new h1 N0) (by omega) (by omega) (by omega) hnv hna bQ_0 (by omega) (by omega) (by omega)).mono ?_
  rintro e w1 ⟨rfl, hk, _⟩
  have D := Lib.hid (right_scan nv na (.node k v l))
  rw [show (6 - 1 : Int).toNat = 5 from rfl, show (0 : Int).toNat = 0 from rfl, D.out]
  go_wp2
  go_ret
  exact ⟨rfl, New.one N0 hk (by omega)⟩
end Go.Proofs.Ytckikiaockkmbaa.ScanV
