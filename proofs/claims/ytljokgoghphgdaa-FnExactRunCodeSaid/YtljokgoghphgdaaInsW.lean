/- instrOk of impl, the literal of CodeValid, IndexFunc and ContainsFunc at instructions. No conditions. -/
import Derived.Test.YtljokgoghphgdaaCodeV
import Derived.StillTailTactics
import Derived.Deep.QuietTactic
import Derived.BigQuiet
import Derived.Shelf.Abstract
namespace Go.Proofs.Ytljokgoghphgdaa.InsW
open Go.RowKit Kit Val CodeV
set_option linter.unusedVariables false
set_option maxHeartbeats 1000000 in
theorem instrOff {w : World} {a a1 a2 : Option Addr} {n c n1 c1 n2 c2 : Nat} (x : Ins) (g : x.op < 1 ∨ 13 < x.op) :
    Calls Try.prog 102 #[.agg #[.slice a n c, .slice a1 n1 c1, .slice a2 n2 c2], .agg #[.int .i64 x.op, .int .i64 x.a, .int .i64 x.b, .int .i64 x.c, .int .i64 x.d]] w fun e w' => e = .returned (.bool (insI n n1 n2 x)) ∧ New w w' := by
  go_enter Try.func102, Try.ntmps102
  go_wp2_with fail
  have N0 : New w ((w.alloc (.cells #[.slice a n c, .slice a1 n1 c1, .slice a2 n2 c2] 26)).alloc (.cells #[.int .i64 x.op, .int .i64 x.a, .int .i64 x.b, .int .i64 x.c, .int .i64 x.d] 44)) := (((Kp.refl _ _).alloc _).alloc _)
  have bA_0 : ((w.alloc (.cells #[.slice a n c, .slice a1 n1 c1, .slice a2 n2 c2] 26)).alloc (.cells #[.int .i64 x.op, .int .i64 x.a, .int .i64 x.b, .int .i64 x.c, .int .i64 x.d] 44)).heap[w.heap.size]? = some (.cells #[.slice a n c, .slice a1 n1 c1, .slice a2 n2 c2] 26) := heap_old (alloc_heap _ _)
  have bB_0 : ((w.alloc (.cells #[.slice a n c, .slice a1 n1 c1, .slice a2 n2 c2] 26)).alloc (.cells #[.int .i64 x.op, .int .i64 x.a, .int .i64 x.b, .int .i64 x.c, .int .i64 x.d] 44)).heap[w.heap.size + 1]? = some (.cells #[.int .i64 x.op, .int .i64 x.a, .int .i64 x.b, .int .i64 x.c, .int .i64 x.d] 44) := heap_at (by simp)
  have z0 : w.heap.size + 1 < ((w.alloc (.cells #[.slice a n c, .slice a1 n1 c1, .slice a2 n2 c2] 26)).alloc (.cells #[.int .i64 x.op, .int .i64 x.a, .int .i64 x.b, .int .i64 x.c, .int .i64 x.d] 44)).heap.size := by simp
  generalize ((w.alloc (.cells #[.slice a n c, .slice a1 n1 c1, .slice a2 n2 c2] 26)).alloc (.cells #[.int .i64 x.op, .int .i64 x.a, .int .i64 x.b, .int .i64 x.c, .int .i64 x.d] 44)) = w0 at *
  have bB_0_c0 := cell_of_heap bB_0 0
  refine (shapeOff g).mono ?_
  rintro e w1 ⟨rfl, hn1⟩
  have z1 : w0.heap.size ≤ w1.heap.size := hn1.size
  have N1 : New w w1 := N0.trans hn1
  have bA_1 := heap_new hn1 bA_0
  have bB_1 := heap_new hn1 bB_0
  clear bB_0_c0
  clear bA_0 bB_0 hn1
  have bB_1_c0 := cell_of_heap bB_1 0
  have bB_1_c1 := cell_of_heap bB_1 1
  have bB_1_c2 := cell_of_heap bB_1 2
  have bB_1_c3 := cell_of_heap bB_1 3
  have bB_1_c4 := cell_of_heap bB_1 4
  go_wp2_with fail
  refine (fields x).mono ?_
  rintro e w2 ⟨rfl, hn2, hp⟩
  have z2 : w1.heap.size ≤ w2.heap.size := hn2.size
  have N2 : New w w2 := N1.trans hn2
  have bA_2 := heap_new hn2 bA_1
  have bB_2 := heap_new hn2 bB_1
  clear bB_1_c0 bB_1_c1 bB_1_c2 bB_1_c3 bB_1_c4
  clear bA_1 bB_1 hn2
  have oP_2 := hp
  clear hp
  obtain ⟨pn, hpn⟩ : ∃ q, q = w1.heap.size + 1 := ⟨_, rfl⟩
  rw [← hpn] at oP_2 ⊢
  clear hpn
  have hp0 : 0 < (parts x).length := by simp [parts]
  obtain ⟨b, o, e, hb1, hb2, c0⟩ := IntsR.at oP_2 0 hp0
  cases e
  rw [Nat.zero_add] at c0
  have D := Lib.hid (show insI n n1 n2 x = false by simp [insI, lettersI_off g, parts, fieldsI])
  generalize (parts x)[0] = y at *
  clear oP_2 g
  go_wp2_with fail
  go_loopw [14] (fun i wr => i = .int .i64 0 ∧ New w2 wr) (fun i _ => 4 - (intOf i).toNat)
  case atStart => exact ⟨rfl, Kp.refl _ _⟩
  case round =>
    obtain ⟨rfl, hNA⟩ := hrel
    have N3 := N2.trans hNA
    have d0 := (hNA.cell (b := pn) (by omega) (fun f => f) 0).trans c0
    go_wp2_with fail
    go_quiet (fail)
    go_wp2
    go_ret
    exact ⟨retB D.out.symm, drewN_kp _ _ N3⟩
set_option maxHeartbeats 1000000 in
theorem instrOn {w : World} {a a1 a2 : Option Addr} {n c n1 c1 n2 c2 : Nat} (x : Ins) (hn : n ≤ 9223372036854775807) (hn1 : n1 ≤ 9223372036854775807) (hn2 : n2 ≤ 9223372036854775807) (g1 : 1 ≤ x.op) (g2 : x.op ≤ 13) :
    Calls Try.prog 102 #[.agg #[.slice a n c, .slice a1 n1 c1, .slice a2 n2 c2], .agg #[.int .i64 x.op, .int .i64 x.a, .int .i64 x.b, .int .i64 x.c, .int .i64 x.d]] w fun e w' => e = .returned (.bool (insI n n1 n2 x)) ∧ New w w' := by
  go_enter Try.func102, Try.ntmps102
  go_wp2_with fail
  have N0 : New w ((w.alloc (.cells #[.slice a n c, .slice a1 n1 c1, .slice a2 n2 c2] 26)).alloc (.cells #[.int .i64 x.op, .int .i64 x.a, .int .i64 x.b, .int .i64 x.c, .int .i64 x.d] 44)) := (((Kp.refl _ _).alloc _).alloc _)
  have bA_0 : ((w.alloc (.cells #[.slice a n c, .slice a1 n1 c1, .slice a2 n2 c2] 26)).alloc (.cells #[.int .i64 x.op, .int .i64 x.a, .int .i64 x.b, .int .i64 x.c, .int .i64 x.d] 44)).heap[w.heap.size]? = some (.cells #[.slice a n c, .slice a1 n1 c1, .slice a2 n2 c2] 26) := heap_old (alloc_heap _ _)
  have bB_0 : ((w.alloc (.cells #[.slice a n c, .slice a1 n1 c1, .slice a2 n2 c2] 26)).alloc (.cells #[.int .i64 x.op, .int .i64 x.a, .int .i64 x.b, .int .i64 x.c, .int .i64 x.d] 44)).heap[w.heap.size + 1]? = some (.cells #[.int .i64 x.op, .int .i64 x.a, .int .i64 x.b, .int .i64 x.c, .int .i64 x.d] 44) := heap_at (by simp)
  have z0 : w.heap.size + 1 < ((w.alloc (.cells #[.slice a n c, .slice a1 n1 c1, .slice a2 n2 c2] 26)).alloc (.cells #[.int .i64 x.op, .int .i64 x.a, .int .i64 x.b, .int .i64 x.c, .int .i64 x.d] 44)).heap.size := by simp
  generalize ((w.alloc (.cells #[.slice a n c, .slice a1 n1 c1, .slice a2 n2 c2] 26)).alloc (.cells #[.int .i64 x.op, .int .i64 x.a, .int .i64 x.b, .int .i64 x.c, .int .i64 x.d] 44)) = w0 at *
  have bB_0_c0 := cell_of_heap bB_0 0
  refine (shapeOn g1 g2).mono ?_
  rintro e w1 ⟨ks, rfl, hks, hn1⟩
  have z1 : w0.heap.size ≤ w1.heap.size := hn1.size
  have N1 : New w w1 := N0.trans hn1
  have bA_1 := heap_new hn1 bA_0
  have bB_1 := heap_new hn1 bB_0
  clear bB_0_c0
  clear bA_0 bB_0 hn1
  have KS := Lib.hid hks
  have kl : ks.size = 4 := by rw [ba_len hks]; exact lettersI_on g1 g2
  have klh := Lib.hid kl
  have k4 : 4 ≤ ks.size := by omega
  have k4b : ks.size ≤ 4 := by omega
  clear hks kl
  have bB_1_c0 := cell_of_heap bB_1 0
  have bB_1_c1 := cell_of_heap bB_1 1
  have bB_1_c2 := cell_of_heap bB_1 2
  have bB_1_c3 := cell_of_heap bB_1 3
  have bB_1_c4 := cell_of_heap bB_1 4
  go_wp2_with fail
  refine (fields x).mono ?_
  rintro e w2 ⟨rfl, hn2, hp⟩
  have z2 : w1.heap.size ≤ w2.heap.size := hn2.size
  have N2 : New w w2 := N1.trans hn2
  have bA_2 := heap_new hn2 bA_1
  have bB_2 := heap_new hn2 bB_1
  clear bB_1_c0 bB_1_c1 bB_1_c2 bB_1_c3 bB_1_c4
  clear bA_1 bB_1 hn2
  have oP_2 := hp
  clear hp
  have hne : ks.toList.isEmpty = false := by
    rw [ByteArray.toList_eq]
    cases h : ks.data.toList with
    | nil => have h1 : ks.size = 0 := ba_len h; omega
    | cons => rfl
  obtain ⟨pn, hpn⟩ : ∃ q, q = w1.heap.size + 1 := ⟨_, rfl⟩
  rw [← hpn] at oP_2 ⊢
  clear hpn
  go_wp2_with fail
  go_loopw [14] (fun i wr => ∃ j : Nat, j ≤ 4 ∧ i = .int .i64 j ∧ New w2 wr ∧ Hid (insI n n1 n2 x = fieldsI n n1 n2 ((lettersI x.op).drop j) ((parts x).drop j))) (fun i _ => 4 - (intOf i).toNat)
  case atStart => exact ⟨0, by omega, rfl, Kp.refl _ _, Lib.hid rfl⟩
  case round =>
    obtain ⟨j, hj, rfl, hNA, hD⟩ := hrel
    have N3 := N2.trans hNA
    have bA3 := heap_new hNA bA_2
    have cA0 := cell_of_heap bA3 0
    have cA1 := cell_of_heap bA3 1
    have cA2 := cell_of_heap bA3 2
    by_cases hlt : j < 4
    · have hpl : j < (parts x).length := by simpa [parts] using hlt
      obtain ⟨b, o, e, hb1, hb2, c0⟩ := IntsR.at (oP_2.new (Nat.le_refl _) hNA) j hpl
      cases e
      rw [Nat.zero_add] at c0
      have hk : j < ks.size := by omega
      have hk2 : j < (lettersI x.op).length := by rw [← ba_len KS.out]; exact hk
      have hF := Lib.hid (fieldsI_drop (nv := n) (na := n1) (nl := n2) hpl hk2)
      have hR := Lib.hid (show (lettersI x.op)[j] = ks[j] from (ba_get KS.out j hk hk2).symm)
      clear oP_2
      generalize (parts x)[j] = y at *
      go_wp2_with fail
      set_option maxRecDepth 100000 in go_still_tail 8, (by kernel_rfl)
      change wpList _ _ _ _ _ wr.drew
      go_wp2_with fail
      refine (fieldOk hn hn1 hn2).mono ?_
      rintro r w3 ⟨rfl, hn3⟩
      have N4 := N3.drew.trans hn3
      have hNA2 := hNA.drew.trans hn3
      cases hp : rangeI n n1 n2 (ks[j].toNat : Int) y
      · have hfin := Lib.hid (show insI n n1 n2 x = false by rw [hD.out, hF.out, hR.out, hp]; rfl)
        clear hD hF hR hp
        go_wp2
        go_ret
        exact ⟨retB hfin.out.symm, N4⟩
      · have hD2 := Lib.hid (show insI n n1 n2 x = fieldsI n n1 n2 ((lettersI x.op).drop (j + 1)) ((parts x).drop (j + 1)) by rw [hD.out, hF.out, hR.out, hp]; rfl)
        clear hD hF hR hp
        go_wp2
        go_roundw
        case rel => exact ⟨j + 1, by omega, by go_num, hNA2, hD2⟩
        case measure => simp [intOf]; omega
    · have hfin := Lib.hid (show insI n n1 n2 x = true by
        rw [hD.out, List.drop_of_length_le (l := parts x) (by simp [parts]; omega)]
        cases (lettersI x.op).drop j <;> rfl)
      have hge : 4 ≤ j := by omega
      clear hD
      go_wp2
      go_ret
      exact ⟨retB hfin.out.symm, N3⟩
theorem instrOk {w : World} {a a1 a2 : Option Addr} {n c n1 c1 n2 c2 : Nat} (x : Ins) (hn : n ≤ 9223372036854775807) (hn1 : n1 ≤ 9223372036854775807) (hn2 : n2 ≤ 9223372036854775807) :
    Calls Try.prog 102 #[.agg #[.slice a n c, .slice a1 n1 c1, .slice a2 n2 c2], .agg #[.int .i64 x.op, .int .i64 x.a, .int .i64 x.b, .int .i64 x.c, .int .i64 x.d]] w fun e w' => e = .returned (.bool (insI n n1 n2 x)) ∧ New w w' := by
  by_cases g1 : 1 ≤ x.op
  · by_cases g2 : x.op ≤ 13
    · exact instrOn x hn hn1 hn2 g1 g2
    · exact instrOff x (by omega)
  · exact instrOff x (by omega)
set_option maxHeartbeats 1000000 in
theorem lit {w : World} {a a1 a2 : Option Addr} {n c n1 c1 n2 c2 : Nat} {bc : Nat} (x : Ins) (hn : n ≤ 9223372036854775807) (hn1 : n1 ≤ 9223372036854775807) (hn2 : n2 ≤ 9223372036854775807) (hb : w.heap[bc]? = some (.cells #[.slice a n c, .slice a1 n1 c1, .slice a2 n2 c2] 26 (0, 0))) :
    Calls Try.prog 101 #[.agg #[.int .i64 x.op, .int .i64 x.a, .int .i64 x.b, .int .i64 x.c, .int .i64 x.d], .pointer (some ⟨bc, 0, none⟩)] w fun e w' => e = .returned (.bool (!insI n n1 n2 x)) ∧ New w w' := by
  have hlt := heap_lt hb
  have d0 := cell_of_heap hb 0
  have d1 := cell_of_heap hb 1
  have d2 := cell_of_heap hb 2
  go_enter Try.func101, Try.ntmps101
  go_wp2_with fail
  refine (instrOk x hn hn1 hn2).mono ?_
  rintro r w3 ⟨rfl, hn3⟩
  go_wp2
  go_ret
  exact ⟨rfl, ((Kp.refl _ _).alloc _).trans hn3⟩
set_option maxHeartbeats 1000000 in
theorem indexFuncN (f : Nat) (he : ∀ args w, (callFunc f args).run Try.prog w = .ok (.enter f args) w) (bc : Nat) (p : Ins → Bool) (w : World) (hf : ∀ (w1 : World) (x : Ins), New w w1 → Calls Try.prog f #[.agg #[.int .i64 x.op, .int .i64 x.a, .int .i64 x.b, .int .i64 x.c, .int .i64 x.d], .pointer (some ⟨bc, 0, none⟩)] w1 fun e w' => e = .returned (.bool (p x)) ∧ New w1 w') (lo hi : Nat) (s : Value) (xs : List Ins) (hs : InssR w lo hi s xs) (h1 : hi ≤ w.heap.size) :
    Calls Try.prog 121 #[s, .func (.func f) #[] #[.pointer (some ⟨bc, 0, none⟩)]] w fun e w' => (∃ r : Int, e = .returned (.int .i64 r) ∧ decide (0 ≤ r) = xs.any p) ∧ New w w' := by
  obtain ⟨a, c, rfl, hl1⟩ := hs.len
  have H := Lib.hid hf; clear hf
  go_enter Try.func121, Try.ntmps121
  go_wp2_with fail
  go_loopw [8] (fun i wr => ∃ j : Nat, j ≤ xs.length ∧ i = .int .i64 j ∧ New w wr ∧ Hid ((xs.take j).any p = false)) (fun i _ => xs.length - (intOf i).toNat)
  case atStart => exact ⟨0, Nat.zero_le _, rfl, Kp.refl _ _, Lib.hid rfl⟩
  case round =>
    obtain ⟨j, hj, rfl, hN, hA⟩ := hrel
    by_cases hlt : j < xs.length
    · obtain ⟨b, o, rfl, hb1, hb2, c0, c1, c2, c3, c4⟩ := InssR.at (hs.new h1 hN) j hlt
      have hs1 := Lib.hid (show (xs.take (j + 1)).any p = p xs[j] by rw [List.take_succ_eq_append_getElem hlt, List.any_append, hA.out]; simp)
      have hs2 := Lib.hid (show p xs[j] = true → xs.any p = true from fun h => List.any_eq_true.2 ⟨_, List.getElem_mem hlt, h⟩)
      clear hs hA
      generalize xs[j] = x at *
      go_wp2_with fail
      refine (H.out _ _ hN).mono ?_
      rintro r w1 ⟨rfl, hn⟩
      have hN1 := hN.trans hn
      cases hp : p x
      · go_wp2
        go_roundw
        case rel => exact ⟨j + 1, by omega, by go_num, hN1, Lib.hid (by rw [hs1.out, hp])⟩
        case measure => simp [intOf]; omega
      · have hfin := Lib.hid (hs2.out hp)
        clear hs1 hs2 hp
        go_wp2
        go_ret
        exact ⟨⟨_, rfl, by rw [hfin.out]; simp⟩, hN1⟩
    · have hge : xs.length ≤ j := by omega
      have hfin := Lib.hid (show xs.any p = false by have h := hA.out; rwa [List.take_of_length_le hge] at h)
      clear hA hs
      go_wp2
      go_ret
      exact ⟨⟨_, rfl, by rw [hfin.out]; simp⟩, hN⟩
theorem containsFuncN (f : Nat) (he : ∀ args w, (callFunc f args).run Try.prog w = .ok (.enter f args) w) (bc : Nat) (p : Ins → Bool) (w : World) (hf : ∀ (w1 : World) (x : Ins), New w w1 → Calls Try.prog f #[.agg #[.int .i64 x.op, .int .i64 x.a, .int .i64 x.b, .int .i64 x.c, .int .i64 x.d], .pointer (some ⟨bc, 0, none⟩)] w1 fun e w' => e = .returned (.bool (p x)) ∧ New w1 w') (lo hi : Nat) (s : Value) (xs : List Ins) (hs : InssR w lo hi s xs) (h1 : hi ≤ w.heap.size) :
    Calls Try.prog 100 #[s, .func (.func f) #[] #[.pointer (some ⟨bc, 0, none⟩)]] w fun e w' => e = .returned (.bool (xs.any p)) ∧ New w w' := by
  have H := Lib.hid hf; clear hf
  go_enter Try.func100, Try.ntmps100
  go_wp2_with fail
  refine (indexFuncN f he bc p w H.out lo hi s xs hs h1).mono ?_
  rintro e w1 ⟨⟨r, rfl, hr⟩, hn⟩
  have hR := Lib.hid hr; clear hr
  go_wp2
  go_ret
  exact ⟨retB hR.out, hn⟩
end Go.Proofs.Ytljokgoghphgdaa.InsW
