/- CodeValid of spec and of impl, with what they call. No conditions. -/
import Derived.Test.YtljokgoghphgdaaValC
import Derived.Test.YtljokgoghphgdaaDecl
import Derived.StillTailTactics
import Derived.Deep.QuietTactic
import Derived.BigQuiet
namespace Go.Proofs.Ytljokgoghphgdaa.CodeV
open Go.RowKit Kit Val
set_option linter.unusedVariables false
theorem ints4 {w : World} {b : Nat} {T : TypeId} {f : Nat × Nat} {p q r s : Int} (h : w.heap[b]? = some (.cells #[.int .i64 p, .int .i64 q, .int .i64 r, .int .i64 s] T f)) {lo hi : Nat} (h0 : lo ≤ b) (h1 : b < hi) : IntsR w lo hi (.slice (some ⟨b, 0, none⟩) 4 4) [p, q, r, s] :=
  .cons b 0 4 [p, q, r, s] (by simp) h0 h1 (by simp) (by omega) (fun i hi t ht => by
    obtain rfl : t = 0 := by omega
    match i, hi with
    | 0, _ => exact cell_of_heap h 0
    | 1, _ => exact cell_of_heap h 1
    | 2, _ => exact cell_of_heap h 2
    | 3, _ => exact cell_of_heap h 3)
theorem ba_len {s : ByteArray} {l : List UInt8} (h : s.data.toList = l) : s.size = l.length := by subst h; rfl
theorem ba_get {s : ByteArray} {l : List UInt8} (h : s.data.toList = l) (j : Nat) (hj : j < s.size) (hj2 : j < l.length) : s[j] = l[j] := by subst h; rfl
set_option maxHeartbeats 400000 in
theorem l6Parts {w : World} (x : Ins) : Calls Try.prog 129 #[.agg #[.int .i64 x.op, .int .i64 x.a, .int .i64 x.b, .int .i64 x.c, .int .i64 x.d]] w fun e w' => e = .returned (.slice (some ⟨w.heap.size + 1, 0, none⟩) 4 4) ∧ New w w' ∧ IntsR w' w.heap.size w'.heap.size (.slice (some ⟨w.heap.size + 1, 0, none⟩) 4 4) (parts x) := by
  go_enter Try.func129, Try.ntmps129
  go_wp2_with fail
  go_ret
  exact ⟨rfl, ((Kp.refl _ _).alloc _).alloc _, ints4 (heap_at (by simp)) (by omega) (by simp)⟩
set_option maxHeartbeats 400000 in
theorem fields {w : World} (x : Ins) : Calls Try.prog 123 #[.agg #[.int .i64 x.op, .int .i64 x.a, .int .i64 x.b, .int .i64 x.c, .int .i64 x.d]] w fun e w' => e = .returned (.slice (some ⟨w.heap.size + 1, 0, none⟩) 4 4) ∧ New w w' ∧ IntsR w' w.heap.size w'.heap.size (.slice (some ⟨w.heap.size + 1, 0, none⟩) 4 4) (parts x) := by
  go_enter Try.func123, Try.ntmps123
  go_wp2_with fail
  go_ret
  exact ⟨rfl, ((Kp.refl _ _).alloc _).alloc _, ints4 (heap_at (by simp)) (by omega) (by simp)⟩
set_option maxHeartbeats 4000000 in
theorem l6Fields {w : World} {op : Int} (h1 : 1 ≤ op) (h2 : op ≤ 13) : Calls Try.prog 128 #[.int .i64 op] w fun e w' => ∃ s : ByteArray, e = .returned (.string s) ∧ s.data.toList = lettersS op ∧ New w w' := by
  obtain rfl | rfl | rfl | rfl | rfl | rfl | rfl | rfl | rfl | rfl | rfl | rfl | rfl := ops_of h1 h2
  all_goals
    go_enter Try.func128, Try.ntmps128
    go_wp2
    go_ret
    exact ⟨_, rfl, rfl, (Kp.refl _ _).alloc _⟩
set_option maxHeartbeats 4000000 in
theorem shapeOn {w : World} {op : Int} (h1 : 1 ≤ op) (h2 : op ≤ 13) : Calls Try.prog 122 #[.int .i64 op] w fun e w' => ∃ s : ByteArray, e = .returned (.string s) ∧ s.data.toList = lettersI op ∧ New w w' := by
  have hin : Lab.inside op 1 13 = true := by simp [Lab.inside]; omega
  obtain rfl | rfl | rfl | rfl | rfl | rfl | rfl | rfl | rfl | rfl | rfl | rfl | rfl := ops_of h1 h2
  all_goals
    clear h1 h2
    go_enter Try.func122, Try.ntmps122
    go_wp2_with fail
    refine (Lab.within _ _ _ _).mono ?_
    rintro e w1 ⟨rfl, rfl⟩
    rw [hin]
    clear hin
    go_wp2
    go_ret
    exact ⟨_, rfl, rfl, (Kp.refl _ _).alloc _⟩
theorem shapeOff {w : World} {op : Int} (h : op < 1 ∨ 13 < op) : Calls Try.prog 122 #[.int .i64 op] w fun e w' => e = .returned (.string ⟨#[]⟩) ∧ New w w' := by
  have hin : Lab.inside op 1 13 = false := by simp [Lab.inside]; omega
  go_enter Try.func122, Try.ntmps122
  go_wp2_with fail
  refine (Lab.within _ _ _ _).mono ?_
  rintro e w1 ⟨rfl, rfl⟩
  rw [hin]
  clear hin h
  go_wp2
  go_ret
  exact ⟨rfl, Kp.refl _ _⟩
set_option maxHeartbeats 4000000 in
theorem l6Range {w : World} {a a1 a2 : Option Addr} {n c n1 c1 n2 c2 : Nat} {x y : Int} (hn : n ≤ 9223372036854775807) (hn1 : n1 ≤ 9223372036854775807) (hn2 : n2 ≤ 9223372036854775807) :
    Calls Try.prog 130 #[.agg #[.slice a n c, .slice a1 n1 c1, .slice a2 n2 c2], .int .u8 x, .int .i64 y] w fun e w' => e = .returned (.bool (rangeS n n1 n2 x y)) ∧ New w w' := by
  by_cases h114 : x = 114
  · subst h114
    have D := Lib.hid (show rangeS n n1 n2 114 y = (decide (0 ≤ y) && decide (y < 14)) by simp [rangeS])
    by_cases g1 : 0 ≤ y
    · by_cases g2 : y < 14
      · go_enter Try.func130, Try.ntmps130
        go_wp2
        go_ret
        exact ⟨retB (by rw [D.out]; simp [g1, g2]), (Kp.refl _ _).alloc _⟩
      · go_enter Try.func130, Try.ntmps130
        go_wp2
        go_ret
        exact ⟨retB (by rw [D.out]; simp [g1, g2]), (Kp.refl _ _).alloc _⟩
    · go_enter Try.func130, Try.ntmps130
      go_wp2
      go_ret
      exact ⟨retB (by rw [D.out]; simp; omega), (Kp.refl _ _).alloc _⟩
  · by_cases h99 : x = 99
    · subst h99
      have D := Lib.hid (show rangeS n n1 n2 99 y = (decide (0 ≤ y) && decide (y ≤ 255)) by simp [rangeS])
      clear h114
      by_cases g1 : 0 ≤ y
      · by_cases g2 : y ≤ 255
        · go_enter Try.func130, Try.ntmps130
          go_wp2
          go_ret
          exact ⟨retB (by rw [D.out]; simp [g1, g2]), (Kp.refl _ _).alloc _⟩
        · go_enter Try.func130, Try.ntmps130
          go_wp2
          go_ret
          exact ⟨retB (by rw [D.out]; simp [g1, g2]), (Kp.refl _ _).alloc _⟩
      · go_enter Try.func130, Try.ntmps130
        go_wp2
        go_ret
        exact ⟨retB (by rw [D.out]; simp; omega), (Kp.refl _ _).alloc _⟩
    · by_cases h118 : x = 118
      · subst h118
        have D := Lib.hid (show rangeS n n1 n2 118 y = (decide (0 ≤ y) && decide (y < (n : Int))) by simp [rangeS])
        clear h114 h99
        by_cases g1 : 0 ≤ y
        · by_cases g2 : y < (n : Int)
          · go_enter Try.func130, Try.ntmps130
            go_wp2
            go_ret
            exact ⟨retB (by rw [D.out]; simp [g1, g2]), (Kp.refl _ _).alloc _⟩
          · go_enter Try.func130, Try.ntmps130
            go_wp2
            go_ret
            exact ⟨retB (by rw [D.out]; simp [g1, g2]), (Kp.refl _ _).alloc _⟩
        · go_enter Try.func130, Try.ntmps130
          go_wp2
          go_ret
          exact ⟨retB (by rw [D.out]; simp; omega), (Kp.refl _ _).alloc _⟩
      · by_cases h97 : x = 97
        · subst h97
          have D := Lib.hid (show rangeS n n1 n2 97 y = (decide (0 ≤ y) && decide (y < (n1 : Int))) by simp [rangeS])
          clear h114 h99 h118
          by_cases g1 : 0 ≤ y
          · by_cases g2 : y < (n1 : Int)
            · go_enter Try.func130, Try.ntmps130
              go_wp2
              go_ret
              exact ⟨retB (by rw [D.out]; simp [g1, g2]), (Kp.refl _ _).alloc _⟩
            · go_enter Try.func130, Try.ntmps130
              go_wp2
              go_ret
              exact ⟨retB (by rw [D.out]; simp [g1, g2]), (Kp.refl _ _).alloc _⟩
          · go_enter Try.func130, Try.ntmps130
            go_wp2
            go_ret
            exact ⟨retB (by rw [D.out]; simp; omega), (Kp.refl _ _).alloc _⟩
        · by_cases h111 : x = 111
          · subst h111
            have D := Lib.hid (show rangeS n n1 n2 111 y = (decide (4 ≤ y) && decide (y ≤ 10)) by simp [rangeS])
            clear h114 h99 h118 h97
            by_cases g1 : 4 ≤ y
            · by_cases g2 : y ≤ 10
              · go_enter Try.func130, Try.ntmps130
                go_wp2
                go_ret
                exact ⟨retB (by rw [D.out]; simp [g1, g2]), (Kp.refl _ _).alloc _⟩
              · go_enter Try.func130, Try.ntmps130
                go_wp2
                go_ret
                exact ⟨retB (by rw [D.out]; simp [g1, g2]), (Kp.refl _ _).alloc _⟩
            · go_enter Try.func130, Try.ntmps130
              go_wp2
              go_ret
              exact ⟨retB (by rw [D.out]; simp; omega), (Kp.refl _ _).alloc _⟩
          · have e114 : (x == 114) = false := by simp [h114]
            have e99 : (x == 99) = false := by simp [h99]
            have e118 : (x == 118) = false := by simp [h118]
            have e97 : (x == 97) = false := by simp [h97]
            have e111 : (x == 111) = false := by simp [h111]
            have D := Lib.hid (show rangeS n n1 n2 x y = (decide (0 ≤ y) && decide (y < (n2 : Int))) by simp [rangeS, h114, h99, h118, h97, h111])
            clear h114 h99 h118 h97 h111
            by_cases g1 : 0 ≤ y
            · by_cases g2 : y < (n2 : Int)
              · go_enter Try.func130, Try.ntmps130
                go_wp2
                go_ret
                exact ⟨retB (by rw [D.out]; simp [g1, g2]), (Kp.refl _ _).alloc _⟩
              · go_enter Try.func130, Try.ntmps130
                go_wp2
                go_ret
                exact ⟨retB (by rw [D.out]; simp [g1, g2]), (Kp.refl _ _).alloc _⟩
            · go_enter Try.func130, Try.ntmps130
              go_wp2
              go_ret
              exact ⟨retB (by rw [D.out]; simp; omega), (Kp.refl _ _).alloc _⟩
set_option maxHeartbeats 4000000 in
theorem fieldOk {w : World} {a a1 a2 : Option Addr} {n c n1 c1 n2 c2 : Nat} {x y : Int} (hn : n ≤ 9223372036854775807) (hn1 : n1 ≤ 9223372036854775807) (hn2 : n2 ≤ 9223372036854775807) :
    Calls Try.prog 124 #[.agg #[.slice a n c, .slice a1 n1 c1, .slice a2 n2 c2], .int .u8 x, .int .i64 y] w fun e w' => e = .returned (.bool (rangeI n n1 n2 x y)) ∧ New w w' := by
  by_cases h114 : x = 114
  · subst h114
    have D := Lib.hid (show rangeI n n1 n2 114 y = Lab.inside y 0 13 by simp [rangeI])
    go_enter Try.func124, Try.ntmps124
    go_wp2_with fail
    refine (Lab.within _ _ _ _).mono ?_
    rintro e w1 ⟨rfl, rfl⟩
    go_wp2
    go_ret
    exact ⟨retB D.out.symm, (Kp.refl _ _).alloc _⟩
  · by_cases h118 : x = 118
    · subst h118
      have D := Lib.hid (show rangeI n n1 n2 118 y = Lab.inside y 0 ((n : Int) - 1) by simp [rangeI])
      clear h114
      go_enter Try.func124, Try.ntmps124
      go_wp2_with fail
      refine (Lab.within _ _ _ _).mono ?_
      rintro e w1 ⟨rfl, rfl⟩
      go_wp2
      go_ret
      exact ⟨retB D.out.symm, (Kp.refl _ _).alloc _⟩
    · by_cases h97 : x = 97
      · subst h97
        have D := Lib.hid (show rangeI n n1 n2 97 y = Lab.inside y 0 ((n1 : Int) - 1) by simp [rangeI])
        clear h114 h118
        go_enter Try.func124, Try.ntmps124
        go_wp2_with fail
        refine (Lab.within _ _ _ _).mono ?_
        rintro e w1 ⟨rfl, rfl⟩
        go_wp2
        go_ret
        exact ⟨retB D.out.symm, (Kp.refl _ _).alloc _⟩
      · by_cases h110 : x = 110
        · subst h110
          have D := Lib.hid (show rangeI n n1 n2 110 y = Lab.inside y 0 255 by simp [rangeI])
          clear h114 h118 h97
          go_enter Try.func124, Try.ntmps124
          go_wp2_with fail
          refine (Lab.within _ _ _ _).mono ?_
          rintro e w1 ⟨rfl, rfl⟩
          go_wp2
          go_ret
          exact ⟨retB D.out.symm, (Kp.refl _ _).alloc _⟩
        · by_cases h111 : x = 111
          · subst h111
            have D := Lib.hid (show rangeI n n1 n2 111 y = Lab.inside y 4 10 by simp [rangeI])
            clear h114 h118 h97 h110
            go_enter Try.func124, Try.ntmps124
            go_wp2_with fail
            refine (Lab.within _ _ _ _).mono ?_
            rintro e w1 ⟨rfl, rfl⟩
            go_wp2
            go_ret
            exact ⟨retB D.out.symm, (Kp.refl _ _).alloc _⟩
          · by_cases h105 : x = 105
            · subst h105
              have D := Lib.hid (show rangeI n n1 n2 105 y = Lab.inside y 0 ((n2 : Int) - 1) by simp [rangeI])
              clear h114 h118 h97 h110 h111
              go_enter Try.func124, Try.ntmps124
              go_wp2_with fail
              refine (Lab.within _ _ _ _).mono ?_
              rintro e w1 ⟨rfl, rfl⟩
              go_wp2
              go_ret
              exact ⟨retB D.out.symm, (Kp.refl _ _).alloc _⟩
            · have e114 : (x == 114) = false := by simp [h114]
              have e118 : (x == 118) = false := by simp [h118]
              have e97 : (x == 97) = false := by simp [h97]
              have e110 : (x == 110) = false := by simp [h110]
              have e111 : (x == 111) = false := by simp [h111]
              have e105 : (x == 105) = false := by simp [h105]
              have D := Lib.hid (show rangeI n n1 n2 x y = (y == 0) by simp [rangeI, h114, h118, h97, h110, h111, h105])
              clear h114 h118 h97 h110 h111 h105
              go_enter Try.func124, Try.ntmps124
              go_wp2
              go_ret
              exact ⟨retB D.out.symm, (Kp.refl _ _).alloc _⟩
end Go.Proofs.Ytljokgoghphgdaa.CodeV
