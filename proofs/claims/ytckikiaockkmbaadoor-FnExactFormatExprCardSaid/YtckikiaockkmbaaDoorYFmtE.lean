/- The texts of expressions, by spec and by impl; FormatExpr of both. Conditions: at most 2^20 nodes; for impl the table of powers of ten lies as the program lays it. -/
import Derived.Test.YtckikiaockkmbaaDoorYFmtX
import Derived.Test.YtckikiaockkmbaaDoorYFmtT
import Derived.Test.YtckikiaockkmbaaDoorYExprV
import Derived.Deep.RegionHeld3
import Derived.Deep.DeepCutAuto
import Derived.RegionTactic
import Derived.Test.YtckikiaockkmbaaDoorYP1
namespace Go.Proofs.YtckikiaockkmbaaDoor.FmtE
open Go.RowKit Kit Val EvP FmtP FmtX
set_option linter.unusedVariables false
theorem slA {m : Nat} {C : ByteArray} (hm : m < 2) (hC : C = ⟨#[UInt8.ofNat (80 + m)]⟩) : ∀ wx, (Instr.slice 9 (.string ⟨#[80, 81]⟩) (some (.int .i64 (m : Int))) (some (.int .i64 ((m : Int) + 1))) none).run Tryd.prog wx = .ok (.string C) wx := by
  intro wx
  rw [hC]
  obtain rfl | rfl : m = 0 ∨ m = 1 := by omega
  all_goals kernel_rfl
theorem slS2 {k : Int} {C : ByteArray} (h1 : 4 ≤ k) (h2 : k ≤ 10) (hC : C = ⟨#[sn k]⟩) : ∀ wx, (Instr.slice 9 (.string ⟨#[43, 45, 42, 38, 94, 61, 60]⟩) (some (.int .i64 (k - 4))) (some (.int .i64 (k - 3))) none).run Tryd.prog wx = .ok (.string C) wx := by
  intro wx
  rw [hC]
  obtain rfl | rfl | rfl | rfl | rfl | rfl | rfl : k = 4 ∨ k = 5 ∨ k = 6 ∨ k = 7 ∨ k = 8 ∨ k = 9 ∨ k = 10 := by omega
  all_goals kernel_rfl
theorem slS {k : Int} {C : ByteArray} (h1 : 4 ≤ k) (h2 : k ≤ 10) (hC : C = ⟨#[sn k]⟩) : ∀ wx, (Instr.slice 9 (.string ⟨#[43, 45, 42, 38, 94, 61, 60]⟩) (some (.int .i64 (k - 4))) (some (.int .i64 (k - 4 + 1))) none).run Tryd.prog wx = .ok (.string C) wx := by
  intro wx
  rw [show k - 4 + 1 = k - 3 by omega]
  exact slS2 h1 h2 hC wx
set_option maxHeartbeats 16000000 in
set_option maxRecDepth 100000 in
theorem specX (lo hi nv na : Nat) (hnv : nv ≤ 12) (hna : na ≤ 2) : ∀ (n : Nat) (w : World) (d : Nat) (s : Value) (k v : Int) (ks : List Ex), Ex.sizes ks < n → n ≤ 2097152 → shp nv na (.node k v ks) d = true → KidsR w lo hi s ks → hi ≤ w.heap.size →
    Calls Tryd.prog 30 #[.agg #[.int .i64 k, .int .i64 v, s]] w fun e w' => e = .returned (.string ⟨(tx (.node k v ks)).toArray⟩) ∧ New w w' := by
  intro n
  induction n with
  | zero => intro w d s k v ks h; exact absurd h (Nat.not_lt_zero _)
  | succ n ih =>
    intro w d s k v ks hn hn2 hsh hs hhi
    obtain ⟨a, d1, rfl, hkl⟩ := hs.len
    have K0 := Lib.hid (show New w (w.alloc (.cells #[.int .i64 k, .int .i64 v, .slice a ks.length d1] 45)) from (Kp.refl _ _).alloc _)
    have bE0 := alloc_heap w (.cells #[.int .i64 k, .int .i64 v, .slice a ks.length d1] 45)
    have hs0 := Lib.hid (hs.new hhi K0.out)
    have y0 : hi ≤ (w.alloc (.cells #[.int .i64 k, .int .i64 v, .slice a ks.length d1] 45)).heap.size := Nat.le_trans hhi K0.out.size
    have hshh := Lib.hid hsh
    have ihh := Lib.hid ih
    obtain ⟨G, hG⟩ : ∃ G : ByteArray, G = ⟨(tx (.node k v ks)).toArray⟩ := ⟨_, rfl⟩
    have hGh := Lib.hid hG
    rw [← hG]
    clear hG hsh ih hs
    go_enter Tryd.func30, Tryd.ntmps30
    go_upto_region 1 with fail
    generalize hbE : w.heap.size = bE at bE0 ⊢
    clear hbE
    generalize (w.alloc (.cells #[.int .i64 k, .int .i64 v, .slice a ks.length d1] 45)) = w0 at *
    obtain ⟨c0E0, c0E1, c0E2⟩ := cells3 bE0
    rcases kinds hshh.out with ⟨rfl, e1, e2, e3⟩ | ⟨rfl, e1, e2, e3⟩ | ⟨rfl, e1, e2, e3⟩ | ⟨e1, e1', e2, rfl⟩ | ⟨rfl, e1, rfl⟩
    · obtain ⟨m, rfl⟩ := Int.eq_ofNat_of_zero_le e2
      have hR := Lib.hid (show (⟨(dg m).toArray⟩ : ByteArray) = G by rw [hGh.out]; rfl)
      go_wp2_with fail
      refine (DecT.l17Dec _ m (by omega)).mono ?_
      rintro e w2 ⟨rfl, hn2⟩
      have N9 := Lib.hid (K0.out.trans hn2)
      rw [hR.out]
      clear hn2
      go_wp2
      go_ret
      exact ⟨rfl, N9.out⟩
    · obtain ⟨m, rfl⟩ := Int.eq_ofNat_of_zero_le e2
      have hR := Lib.hid (show (⟨#[UInt8.ofNat (97 + m)]⟩ : ByteArray) = G by rw [hGh.out]; rfl)
      go_wp2_with fail
      refine (DecT.l2Var _ m (by omega)).mono ?_
      rintro e w2 ⟨rfl, hn2⟩
      have N9 := Lib.hid (K0.out.trans hn2)
      rw [hR.out]
      clear hn2
      go_wp2
      go_ret
      exact ⟨rfl, N9.out⟩
    · obtain ⟨m, rfl⟩ := Int.eq_ofNat_of_zero_le e2
      have hm2 : m < 2 := by omega
      have l0 : 0 < ks.length := by omega
      obtain ⟨b0, o0, s0, hb0, q01, q02, p0a, p0b, p0c, kk0⟩ := hs0.out.at 0 l0
      obtain ⟨a0, e0, rfl, hkl0⟩ := kk0.len
      have hg0 := Ex.kids_get ks 0 l0
      have hz0 : (tx ks[0]).length ≤ 8 * ks[0].size := FmtX.tx_len nv na _ (d - 1) _ (Nat.le_refl _) (kids hshh.out 0 l0)
      have hy0 := Ex.sizes_get ks 0 l0
      have hx0 := Lib.hid (show ks[0] = .node ks[0].kind ks[0].val ks[0].kids by cases ks[0]; rfl)
      have hk0 := Lib.hid (kids hshh.out 0 l0)
      have kk0 := Lib.hid kk0
      have g0 := t0_get ks 0 l0
      obtain ⟨T0, hT0⟩ : ∃ T : ByteArray, (⟨(tx ks[0]).toArray⟩ : ByteArray) = T := ⟨_, rfl⟩
      have ht0 : T0.size ≤ 16777216 := by rw [← hT0, size_toList]; simp only; omega
      have hd0 : T0.data.toList = tx ks[0] := by rw [← hT0]
      have hT0 := Lib.hid hT0
      obtain ⟨C, hC0⟩ : ∃ C : ByteArray, C = ⟨#[UInt8.ofNat (80 + m)]⟩ := ⟨_, rfl⟩
      have hC : C.data.toList = [UInt8.ofNat (80 + m)] := by rw [hC0]
      have hCl : C.size = 1 := by rw [hC0]; rfl
      have hR := Lib.hid (show C ++ (⟨#[91]⟩ : ByteArray) ++ T0 ++ (⟨#[93]⟩ : ByteArray) = G from by
        rw [hGh.out]
        apply ba_ext
        rw [app_toList, app_toList, app_toList, hd0, hC]
        show _ = opX _ _ _
        rw [opX, if_neg (by decide), if_neg (by decide), if_pos rfl, Int.toNat_natCast, g0]
        all_goals first | rfl | simp)
      have hq91 : (⟨#[91]⟩ : ByteArray).size = 1 := rfl
      have hq93 : (⟨#[93]⟩ : ByteArray).size = 1 := rfl
      have bS0 := FmtT.addS (C) (⟨#[91]⟩ : ByteArray) (by (try simp only [ByteArray.size_append]); omega)
      have bO0 := FmtT.addO (C) (⟨#[91]⟩ : ByteArray) (by (try simp only [ByteArray.size_append]); omega)
      have bS1 := FmtT.addS (C ++ (⟨#[91]⟩ : ByteArray)) T0 (by (try simp only [ByteArray.size_append]); omega)
      have bO1 := FmtT.addO (C ++ (⟨#[91]⟩ : ByteArray)) T0 (by (try simp only [ByteArray.size_append]); omega)
      have bS2 := FmtT.addS (C ++ (⟨#[91]⟩ : ByteArray) ++ T0) (⟨#[93]⟩ : ByteArray) (by (try simp only [ByteArray.size_append]); omega)
      have bO2 := FmtT.addO (C ++ (⟨#[91]⟩ : ByteArray) ++ T0) (⟨#[93]⟩ : ByteArray) (by (try simp only [ByteArray.size_append]); omega)
      clear hq91 hq93 hd0 ht0 hCl
      clear hz0 hy0 g0
      generalize ks[0] = x0 at *
      have qq := slA (m := m) (by omega) hC0
      have hw : IntKind.i64.wrap ((m : Int) + 1) = (m : Int) + 1 := IntWalk.i64_in _ (by omega)
      have hCh := Lib.hid hC0
      clear hC hC0
      subst hb0
      have c0k0a : w0.cell? ⟨b0, o0, none⟩ = some (.int .i64 x0.kind) := p0a
      have c0k0b : w0.cell? ⟨b0, o0 + 1, none⟩ = some (.int .i64 x0.val) := p0b
      have c0k0c : w0.cell? ⟨b0, o0 + 2, none⟩ = some (.slice a0 x0.kids.length e0) := p0c
      go_wp2_with fail
      refine wp_region_held_drew (S := fun w' => w'.cell? ⟨bE, 1, none⟩ = some (.int .i64 (m : Int)) ∧ w'.cell? ⟨bE, 2, none⟩ = some (.slice (some ⟨b0, o0, none⟩) ks.length d1) ∧ w'.cell? ⟨b0, o0, none⟩ = some (.int .i64 x0.kind) ∧ w'.cell? ⟨b0, o0 + 1, none⟩ = some (.int .i64 x0.val) ∧ w'.cell? ⟨b0, o0 + 2, none⟩ = some (.slice a0 x0.kids.length e0)) (by kernel_rfl) ?_ (fun hHeld => ?_)
      · exact ⟨c0E1, c0E2, c0k0a, c0k0b, c0k0c⟩
      refine HT 0 rfl ?_
      try simp only [AP]
      refine HT 1 rfl ?_
      try simp only [AP]
      refine HT 2 rfl ?_
      try simp only [AP]
      refine HT 3 rfl ?_
      try simp only [AP]
      refine HT 4 rfl ?_
      try simp only [AP]
      refine HT 5 rfl ?_
      try simp only [AP]
      refine HT 6 rfl ?_
      try simp only [AP]
      refine HT 7 rfl ?_
      try simp only [AP]
      refine HT 8 rfl ?_
      try simp only [AP]
      refine HT 9 rfl ?_
      try simp only [AP]
      refine HT 10 rfl ?_
      try simp only [AP]
      refine HR 11 rfl fun K hK => ?_
      go_simp
      refine (ihh.out w0.drew (d - 1) (.slice a0 x0.kids.length e0) x0.kind x0.val x0.kids (by omega) (by omega) (by rw [← hx0.out]; exact hk0.out) (kk0.out.new y0 ((Kp.refl _ w0).drew)) (show hi ≤ w0.heap.size from y0)).mono ?_
      rintro e w1 ⟨rfl, hn1⟩
      rw [← hx0.out, hT0.out]
      have M1 := Lib.hid (((Kp.refl _ w0).drew).trans hn1)
      have y1 : hi ≤ w1.heap.size := Nat.le_trans y0 hn1.size
      have c1E1 := FmtX.New.at hn1 c0E1
      have c1E2 := FmtX.New.at hn1 c0E2
      have c1k0a := FmtX.New.at hn1 c0k0a
      have c1k0b := FmtX.New.at hn1 c0k0b
      have c1k0c := FmtX.New.at hn1 c0k0c
      refine hK.out _ _ ?_ (fun hHeld2 => ?_)
      · exact ⟨c1E1, c1E2, c1k0a, c1k0b, c1k0c⟩
      clear hK K hHeld
      have hHeld := hHeld2
      clear hHeld2
      try simp only [AP]
      refine HT 12 rfl ?_
      try simp only [AP]
      refine HT 13 rfl ?_
      try simp only [AP]
      refine HT 14 rfl ?_
      try simp only [AP]
      refine wpAnyH_done (by kernel_rfl) ?_ _
      have N9 := Lib.hid (K0.out.trans M1.out)
      clear c0E1 c0E2 c0k0a c0k0b c0k0c c1E1 c1E2 c1k0a c1k0b c1k0c hn1
      go_wp2
      go_ret
      exact ⟨by rw [← hR.out]; rfl, N9.out⟩
    · have l0 : 0 < ks.length := by omega
      obtain ⟨b0, o0, s0, hb0, q01, q02, p0a, p0b, p0c, kk0⟩ := hs0.out.at 0 l0
      obtain ⟨a0, e0, rfl, hkl0⟩ := kk0.len
      have hg0 := Ex.kids_get ks 0 l0
      have hz0 : (tx ks[0]).length ≤ 8 * ks[0].size := FmtX.tx_len nv na _ (d - 1) _ (Nat.le_refl _) (kids hshh.out 0 l0)
      have hy0 := Ex.sizes_get ks 0 l0
      have hx0 := Lib.hid (show ks[0] = .node ks[0].kind ks[0].val ks[0].kids by cases ks[0]; rfl)
      have hk0 := Lib.hid (kids hshh.out 0 l0)
      have kk0 := Lib.hid kk0
      have g0 := t0_get ks 0 l0
      have l1 : 1 < ks.length := by omega
      obtain ⟨b1, o1, s1, hb1, q11, q12, p1a, p1b, p1c, kk1⟩ := hs0.out.at 1 l1
      obtain ⟨a1, e1, rfl, hkl1⟩ := kk1.len
      have hg1 := Ex.kids_get ks 1 l1
      have hz1 : (tx ks[1]).length ≤ 8 * ks[1].size := FmtX.tx_len nv na _ (d - 1) _ (Nat.le_refl _) (kids hshh.out 1 l1)
      have hy1 := Ex.sizes_get ks 1 l1
      have hx1 := Lib.hid (show ks[1] = .node ks[1].kind ks[1].val ks[1].kids by cases ks[1]; rfl)
      have hk1 := Lib.hid (kids hshh.out 1 l1)
      have kk1 := Lib.hid kk1
      have g1 := t0_get ks 1 l1
      obtain ⟨T0, hT0⟩ : ∃ T : ByteArray, (⟨(tx ks[0]).toArray⟩ : ByteArray) = T := ⟨_, rfl⟩
      have ht0 : T0.size ≤ 16777216 := by rw [← hT0, size_toList]; simp only; omega
      have hd0 : T0.data.toList = tx ks[0] := by rw [← hT0]
      have hT0 := Lib.hid hT0
      obtain ⟨T1, hT1⟩ : ∃ T : ByteArray, (⟨(tx ks[1]).toArray⟩ : ByteArray) = T := ⟨_, rfl⟩
      have ht1 : T1.size ≤ 16777216 := by rw [← hT1, size_toList]; simp only; omega
      have hd1 : T1.data.toList = tx ks[1] := by rw [← hT1]
      have hT1 := Lib.hid hT1
      obtain ⟨C, hC0⟩ : ∃ C : ByteArray, C = ⟨#[sn k]⟩ := ⟨_, rfl⟩
      have hC : C.data.toList = [sn k] := by rw [hC0]
      have hCl : C.size = 1 := by rw [hC0]; rfl
      have hR := Lib.hid (show (⟨#[40]⟩ : ByteArray) ++ T0 ++ C ++ T1 ++ (⟨#[41]⟩ : ByteArray) = G from by
        rw [hGh.out]
        apply ba_ext
        rw [app_toList, app_toList, app_toList, app_toList, hd0, hd1, hC]
        show _ = opX _ _ _
        rw [opX, if_neg (by omega), if_neg (by omega), if_neg (by omega), if_neg (by omega), g0, g1]
        all_goals first | rfl | simp)
      have hq40 : (⟨#[40]⟩ : ByteArray).size = 1 := rfl
      have hq41 : (⟨#[41]⟩ : ByteArray).size = 1 := rfl
      have bS0 := FmtT.addS ((⟨#[40]⟩ : ByteArray)) T0 (by (try simp only [ByteArray.size_append]); omega)
      have bO0 := FmtT.addO ((⟨#[40]⟩ : ByteArray)) T0 (by (try simp only [ByteArray.size_append]); omega)
      have bS1 := FmtT.addS ((⟨#[40]⟩ : ByteArray) ++ T0) C (by (try simp only [ByteArray.size_append]); omega)
      have bO1 := FmtT.addO ((⟨#[40]⟩ : ByteArray) ++ T0) C (by (try simp only [ByteArray.size_append]); omega)
      have bS2 := FmtT.addS ((⟨#[40]⟩ : ByteArray) ++ T0 ++ C) T1 (by (try simp only [ByteArray.size_append]); omega)
      have bO2 := FmtT.addO ((⟨#[40]⟩ : ByteArray) ++ T0 ++ C) T1 (by (try simp only [ByteArray.size_append]); omega)
      have bS3 := FmtT.addS ((⟨#[40]⟩ : ByteArray) ++ T0 ++ C ++ T1) (⟨#[41]⟩ : ByteArray) (by (try simp only [ByteArray.size_append]); omega)
      have bO3 := FmtT.addO ((⟨#[40]⟩ : ByteArray) ++ T0 ++ C ++ T1) (⟨#[41]⟩ : ByteArray) (by (try simp only [ByteArray.size_append]); omega)
      clear hq40 hq41 hd0 ht0 hd1 ht1 hCl
      clear hz0 hy0 g0
      generalize ks[0] = x0 at *
      clear hz1 hy1 g1
      generalize ks[1] = x1 at *
      have qq := slS (by omega) (by omega) hC0
      have qq2 := slS2 (by omega) (by omega) hC0
      have hw1 : IntKind.i64.wrap (k - 4) = k - 4 := IntWalk.i64_in _ (by omega)
      have hw2 : IntKind.i64.wrap (k - 4 + 1) = k - 4 + 1 := IntWalk.i64_in _ (by omega)
      have hw3 : IntKind.i64.wrap (k - 3) = k - 3 := IntWalk.i64_in _ (by omega)
      have n1 : (k == 1) = false := by rw [beq_eq_false_iff_ne]; omega
      have n2 : (k == 2) = false := by rw [beq_eq_false_iff_ne]; omega
      have n3 : (k == 3) = false := by rw [beq_eq_false_iff_ne]; omega
      have n11 : (k == 11) = false := by rw [beq_eq_false_iff_ne]; omega
      clear hC hC0
      subst hb0
      cases hb1
      have c0k0a : w0.cell? ⟨b0, o0, none⟩ = some (.int .i64 x0.kind) := p0a
      have c0k0b : w0.cell? ⟨b0, o0 + 1, none⟩ = some (.int .i64 x0.val) := p0b
      have c0k0c : w0.cell? ⟨b0, o0 + 2, none⟩ = some (.slice a0 x0.kids.length e0) := p0c
      have c0k1a : w0.cell? ⟨b0, o0 + 3, none⟩ = some (.int .i64 x1.kind) := p1a
      have c0k1b : w0.cell? ⟨b0, o0 + 4, none⟩ = some (.int .i64 x1.val) := p1b
      have c0k1c : w0.cell? ⟨b0, o0 + 5, none⟩ = some (.slice a1 x1.kids.length e1) := p1c
      go_wp2_with fail
      refine wp_region_held_drew (S := fun w' => w'.cell? ⟨bE, 0, none⟩ = some (.int .i64 k) ∧ w'.cell? ⟨bE, 2, none⟩ = some (.slice (some ⟨b0, o0, none⟩) ks.length d1) ∧ w'.cell? ⟨b0, o0, none⟩ = some (.int .i64 x0.kind) ∧ w'.cell? ⟨b0, o0 + 1, none⟩ = some (.int .i64 x0.val) ∧ w'.cell? ⟨b0, o0 + 2, none⟩ = some (.slice a0 x0.kids.length e0) ∧ w'.cell? ⟨b0, o0 + 3, none⟩ = some (.int .i64 x1.kind) ∧ w'.cell? ⟨b0, o0 + 4, none⟩ = some (.int .i64 x1.val) ∧ w'.cell? ⟨b0, o0 + 5, none⟩ = some (.slice a1 x1.kids.length e1)) (by kernel_rfl) ?_ (fun hHeld => ?_)
      · exact ⟨c0E0, c0E2, c0k0a, c0k0b, c0k0c, c0k1a, c0k1b, c0k1c⟩
      refine HT 0 rfl ?_
      try simp only [AP]
      refine HT 1 rfl ?_
      try simp only [AP]
      refine HT 2 rfl ?_
      try simp only [AP]
      refine HT 3 rfl ?_
      try simp only [AP]
      refine HT 6 rfl ?_
      try simp only [AP]
      refine HT 7 rfl ?_
      try simp only [AP]
      refine HT 8 rfl ?_
      try simp only [AP]
      refine HT 9 rfl ?_
      try simp only [AP]
      refine HT 10 rfl ?_
      try simp only [AP]
      refine HT 11 rfl ?_
      try simp only [AP]
      refine HT 12 rfl ?_
      try simp only [AP]
      refine HT 13 rfl ?_
      try simp only [AP]
      refine HT 15 rfl ?_
      try simp only [AP]
      refine HT 16 rfl ?_
      try simp only [AP]
      refine HT 17 rfl ?_
      try simp only [AP]
      refine HT 18 rfl ?_
      try simp only [AP]
      refine HR 4 rfl fun K hK => ?_
      go_simp
      refine (ihh.out w0.drew (d - 1) (.slice a0 x0.kids.length e0) x0.kind x0.val x0.kids (by omega) (by omega) (by rw [← hx0.out]; exact hk0.out) (kk0.out.new y0 ((Kp.refl _ w0).drew)) (show hi ≤ w0.heap.size from y0)).mono ?_
      rintro e w1 ⟨rfl, hn1⟩
      rw [← hx0.out, hT0.out]
      have M1 := Lib.hid (((Kp.refl _ w0).drew).trans hn1)
      have y1 : hi ≤ w1.heap.size := Nat.le_trans y0 hn1.size
      have c1E0 := FmtX.New.at hn1 c0E0
      have c1E2 := FmtX.New.at hn1 c0E2
      have c1k0a := FmtX.New.at hn1 c0k0a
      have c1k0b := FmtX.New.at hn1 c0k0b
      have c1k0c := FmtX.New.at hn1 c0k0c
      have c1k1a := FmtX.New.at hn1 c0k1a
      have c1k1b := FmtX.New.at hn1 c0k1b
      have c1k1c := FmtX.New.at hn1 c0k1c
      refine hK.out _ _ ?_ (fun hHeld2 => ?_)
      · exact ⟨c1E0, c1E2, c1k0a, c1k0b, c1k0c, c1k1a, c1k1b, c1k1c⟩
      clear hK K hHeld
      have hHeld := hHeld2
      clear hHeld2
      try simp only [AP]
      refine HT 5 rfl ?_
      try simp only [AP]
      refine HT 14 rfl ?_
      try simp only [AP]
      refine HR 19 rfl fun K hK => ?_
      go_simp
      refine (ihh.out w1 (d - 1) (.slice a1 x1.kids.length e1) x1.kind x1.val x1.kids (by omega) (by omega) (by rw [← hx1.out]; exact hk1.out) (kk1.out.new y0 M1.out) (show hi ≤ w1.heap.size from y1)).mono ?_
      rintro e w2 ⟨rfl, hn2⟩
      rw [← hx1.out, hT1.out]
      have M2 := Lib.hid (M1.out.trans hn2)
      have y2 : hi ≤ w2.heap.size := Nat.le_trans y1 hn2.size
      have c2E0 := FmtX.New.at hn2 c1E0
      have c2E2 := FmtX.New.at hn2 c1E2
      have c2k0a := FmtX.New.at hn2 c1k0a
      have c2k0b := FmtX.New.at hn2 c1k0b
      have c2k0c := FmtX.New.at hn2 c1k0c
      have c2k1a := FmtX.New.at hn2 c1k1a
      have c2k1b := FmtX.New.at hn2 c1k1b
      have c2k1c := FmtX.New.at hn2 c1k1c
      refine hK.out _ _ ?_ (fun hHeld2 => ?_)
      · exact ⟨c2E0, c2E2, c2k0a, c2k0b, c2k0c, c2k1a, c2k1b, c2k1c⟩
      clear hK K hHeld
      have hHeld := hHeld2
      clear hHeld2
      try simp only [AP]
      refine HT 20 rfl ?_
      try simp only [AP]
      refine HT 21 rfl ?_
      try simp only [AP]
      refine HT 22 rfl ?_
      try simp only [AP]
      refine wpAnyH_done (by kernel_rfl) ?_ _
      have N9 := Lib.hid (K0.out.trans M2.out)
      clear c0E0 c0E2 c0k0a c0k0b c0k0c c0k1a c0k1b c0k1c c1E0 c1E2 c1k0a c1k0b c1k0c c1k1a c1k1b c1k1c c2E0 c2E2 c2k0a c2k0b c2k0c c2k1a c2k1b c2k1c hn1 hn2
      go_wp2
      go_ret
      exact ⟨by rw [← hR.out]; rfl, N9.out⟩
    · have l0 : 0 < ks.length := by omega
      obtain ⟨b0, o0, s0, hb0, q01, q02, p0a, p0b, p0c, kk0⟩ := hs0.out.at 0 l0
      obtain ⟨a0, e0, rfl, hkl0⟩ := kk0.len
      have hg0 := Ex.kids_get ks 0 l0
      have hz0 : (tx ks[0]).length ≤ 8 * ks[0].size := FmtX.tx_len nv na _ (d - 1) _ (Nat.le_refl _) (kids hshh.out 0 l0)
      have hy0 := Ex.sizes_get ks 0 l0
      have hx0 := Lib.hid (show ks[0] = .node ks[0].kind ks[0].val ks[0].kids by cases ks[0]; rfl)
      have hk0 := Lib.hid (kids hshh.out 0 l0)
      have kk0 := Lib.hid kk0
      have g0 := t0_get ks 0 l0
      have l1 : 1 < ks.length := by omega
      obtain ⟨b1, o1, s1, hb1, q11, q12, p1a, p1b, p1c, kk1⟩ := hs0.out.at 1 l1
      obtain ⟨a1, e1, rfl, hkl1⟩ := kk1.len
      have hg1 := Ex.kids_get ks 1 l1
      have hz1 : (tx ks[1]).length ≤ 8 * ks[1].size := FmtX.tx_len nv na _ (d - 1) _ (Nat.le_refl _) (kids hshh.out 1 l1)
      have hy1 := Ex.sizes_get ks 1 l1
      have hx1 := Lib.hid (show ks[1] = .node ks[1].kind ks[1].val ks[1].kids by cases ks[1]; rfl)
      have hk1 := Lib.hid (kids hshh.out 1 l1)
      have kk1 := Lib.hid kk1
      have g1 := t0_get ks 1 l1
      have l2 : 2 < ks.length := by omega
      obtain ⟨b2, o2, s2, hb2, q21, q22, p2a, p2b, p2c, kk2⟩ := hs0.out.at 2 l2
      obtain ⟨a2, e2, rfl, hkl2⟩ := kk2.len
      have hg2 := Ex.kids_get ks 2 l2
      have hz2 : (tx ks[2]).length ≤ 8 * ks[2].size := FmtX.tx_len nv na _ (d - 1) _ (Nat.le_refl _) (kids hshh.out 2 l2)
      have hy2 := Ex.sizes_get ks 2 l2
      have hx2 := Lib.hid (show ks[2] = .node ks[2].kind ks[2].val ks[2].kids by cases ks[2]; rfl)
      have hk2 := Lib.hid (kids hshh.out 2 l2)
      have kk2 := Lib.hid kk2
      have g2 := t0_get ks 2 l2
      obtain ⟨T0, hT0⟩ : ∃ T : ByteArray, (⟨(tx ks[0]).toArray⟩ : ByteArray) = T := ⟨_, rfl⟩
      have ht0 : T0.size ≤ 16777216 := by rw [← hT0, size_toList]; simp only; omega
      have hd0 : T0.data.toList = tx ks[0] := by rw [← hT0]
      have hT0 := Lib.hid hT0
      obtain ⟨T1, hT1⟩ : ∃ T : ByteArray, (⟨(tx ks[1]).toArray⟩ : ByteArray) = T := ⟨_, rfl⟩
      have ht1 : T1.size ≤ 16777216 := by rw [← hT1, size_toList]; simp only; omega
      have hd1 : T1.data.toList = tx ks[1] := by rw [← hT1]
      have hT1 := Lib.hid hT1
      obtain ⟨T2, hT2⟩ : ∃ T : ByteArray, (⟨(tx ks[2]).toArray⟩ : ByteArray) = T := ⟨_, rfl⟩
      have ht2 : T2.size ≤ 16777216 := by rw [← hT2, size_toList]; simp only; omega
      have hd2 : T2.data.toList = tx ks[2] := by rw [← hT2]
      have hT2 := Lib.hid hT2
      have hR := Lib.hid (show (⟨#[40]⟩ : ByteArray) ++ T0 ++ (⟨#[63]⟩ : ByteArray) ++ T1 ++ (⟨#[58]⟩ : ByteArray) ++ T2 ++ (⟨#[41]⟩ : ByteArray) = G from by
        rw [hGh.out]
        apply ba_ext
        rw [app_toList, app_toList, app_toList, app_toList, app_toList, app_toList, hd0, hd1, hd2]
        show _ = opX _ _ _
        rw [opX, if_neg (by decide), if_neg (by decide), if_neg (by decide), if_pos rfl, g0, g1, g2]
        all_goals first | rfl | simp)
      have hq40 : (⟨#[40]⟩ : ByteArray).size = 1 := rfl
      have hq63 : (⟨#[63]⟩ : ByteArray).size = 1 := rfl
      have hq58 : (⟨#[58]⟩ : ByteArray).size = 1 := rfl
      have hq41 : (⟨#[41]⟩ : ByteArray).size = 1 := rfl
      have bS0 := FmtT.addS ((⟨#[40]⟩ : ByteArray)) T0 (by (try simp only [ByteArray.size_append]); omega)
      have bO0 := FmtT.addO ((⟨#[40]⟩ : ByteArray)) T0 (by (try simp only [ByteArray.size_append]); omega)
      have bS1 := FmtT.addS ((⟨#[40]⟩ : ByteArray) ++ T0) (⟨#[63]⟩ : ByteArray) (by (try simp only [ByteArray.size_append]); omega)
      have bO1 := FmtT.addO ((⟨#[40]⟩ : ByteArray) ++ T0) (⟨#[63]⟩ : ByteArray) (by (try simp only [ByteArray.size_append]); omega)
      have bS2 := FmtT.addS ((⟨#[40]⟩ : ByteArray) ++ T0 ++ (⟨#[63]⟩ : ByteArray)) T1 (by (try simp only [ByteArray.size_append]); omega)
      have bO2 := FmtT.addO ((⟨#[40]⟩ : ByteArray) ++ T0 ++ (⟨#[63]⟩ : ByteArray)) T1 (by (try simp only [ByteArray.size_append]); omega)
      have bS3 := FmtT.addS ((⟨#[40]⟩ : ByteArray) ++ T0 ++ (⟨#[63]⟩ : ByteArray) ++ T1) (⟨#[58]⟩ : ByteArray) (by (try simp only [ByteArray.size_append]); omega)
      have bO3 := FmtT.addO ((⟨#[40]⟩ : ByteArray) ++ T0 ++ (⟨#[63]⟩ : ByteArray) ++ T1) (⟨#[58]⟩ : ByteArray) (by (try simp only [ByteArray.size_append]); omega)
      have bS4 := FmtT.addS ((⟨#[40]⟩ : ByteArray) ++ T0 ++ (⟨#[63]⟩ : ByteArray) ++ T1 ++ (⟨#[58]⟩ : ByteArray)) T2 (by (try simp only [ByteArray.size_append]); omega)
      have bO4 := FmtT.addO ((⟨#[40]⟩ : ByteArray) ++ T0 ++ (⟨#[63]⟩ : ByteArray) ++ T1 ++ (⟨#[58]⟩ : ByteArray)) T2 (by (try simp only [ByteArray.size_append]); omega)
      have bS5 := FmtT.addS ((⟨#[40]⟩ : ByteArray) ++ T0 ++ (⟨#[63]⟩ : ByteArray) ++ T1 ++ (⟨#[58]⟩ : ByteArray) ++ T2) (⟨#[41]⟩ : ByteArray) (by (try simp only [ByteArray.size_append]); omega)
      have bO5 := FmtT.addO ((⟨#[40]⟩ : ByteArray) ++ T0 ++ (⟨#[63]⟩ : ByteArray) ++ T1 ++ (⟨#[58]⟩ : ByteArray) ++ T2) (⟨#[41]⟩ : ByteArray) (by (try simp only [ByteArray.size_append]); omega)
      clear hq40 hq63 hq58 hq41 hd0 ht0 hd1 ht1 hd2 ht2
      clear hz0 hy0 g0
      generalize ks[0] = x0 at *
      clear hz1 hy1 g1
      generalize ks[1] = x1 at *
      clear hz2 hy2 g2
      generalize ks[2] = x2 at *
      subst hb0
      cases hb1
      cases hb2
      have c0k0a : w0.cell? ⟨b0, o0, none⟩ = some (.int .i64 x0.kind) := p0a
      have c0k0b : w0.cell? ⟨b0, o0 + 1, none⟩ = some (.int .i64 x0.val) := p0b
      have c0k0c : w0.cell? ⟨b0, o0 + 2, none⟩ = some (.slice a0 x0.kids.length e0) := p0c
      have c0k1a : w0.cell? ⟨b0, o0 + 3, none⟩ = some (.int .i64 x1.kind) := p1a
      have c0k1b : w0.cell? ⟨b0, o0 + 4, none⟩ = some (.int .i64 x1.val) := p1b
      have c0k1c : w0.cell? ⟨b0, o0 + 5, none⟩ = some (.slice a1 x1.kids.length e1) := p1c
      have c0k2a : w0.cell? ⟨b0, o0 + 6, none⟩ = some (.int .i64 x2.kind) := p2a
      have c0k2b : w0.cell? ⟨b0, o0 + 7, none⟩ = some (.int .i64 x2.val) := p2b
      have c0k2c : w0.cell? ⟨b0, o0 + 8, none⟩ = some (.slice a2 x2.kids.length e2) := p2c
      go_wp2_with fail
      refine wp_region_held_drew (S := fun w' => w'.cell? ⟨bE, 2, none⟩ = some (.slice (some ⟨b0, o0, none⟩) ks.length d1) ∧ w'.cell? ⟨b0, o0, none⟩ = some (.int .i64 x0.kind) ∧ w'.cell? ⟨b0, o0 + 1, none⟩ = some (.int .i64 x0.val) ∧ w'.cell? ⟨b0, o0 + 2, none⟩ = some (.slice a0 x0.kids.length e0) ∧ w'.cell? ⟨b0, o0 + 3, none⟩ = some (.int .i64 x1.kind) ∧ w'.cell? ⟨b0, o0 + 4, none⟩ = some (.int .i64 x1.val) ∧ w'.cell? ⟨b0, o0 + 5, none⟩ = some (.slice a1 x1.kids.length e1) ∧ w'.cell? ⟨b0, o0 + 6, none⟩ = some (.int .i64 x2.kind) ∧ w'.cell? ⟨b0, o0 + 7, none⟩ = some (.int .i64 x2.val) ∧ w'.cell? ⟨b0, o0 + 8, none⟩ = some (.slice a2 x2.kids.length e2)) (by kernel_rfl) ?_ (fun hHeld => ?_)
      · exact ⟨c0E2, c0k0a, c0k0b, c0k0c, c0k1a, c0k1b, c0k1c, c0k2a, c0k2b, c0k2c⟩
      refine HT 0 rfl ?_
      try simp only [AP]
      refine HT 1 rfl ?_
      try simp only [AP]
      refine HT 2 rfl ?_
      try simp only [AP]
      refine HT 3 rfl ?_
      try simp only [AP]
      refine HT 7 rfl ?_
      try simp only [AP]
      refine HT 8 rfl ?_
      try simp only [AP]
      refine HT 9 rfl ?_
      try simp only [AP]
      refine HT 10 rfl ?_
      try simp only [AP]
      refine HT 14 rfl ?_
      try simp only [AP]
      refine HT 15 rfl ?_
      try simp only [AP]
      refine HT 16 rfl ?_
      try simp only [AP]
      refine HT 17 rfl ?_
      try simp only [AP]
      refine HR 4 rfl fun K hK => ?_
      go_simp
      refine (ihh.out w0.drew (d - 1) (.slice a0 x0.kids.length e0) x0.kind x0.val x0.kids (by omega) (by omega) (by rw [← hx0.out]; exact hk0.out) (kk0.out.new y0 ((Kp.refl _ w0).drew)) (show hi ≤ w0.heap.size from y0)).mono ?_
      rintro e w1 ⟨rfl, hn1⟩
      rw [← hx0.out, hT0.out]
      have M1 := Lib.hid (((Kp.refl _ w0).drew).trans hn1)
      have y1 : hi ≤ w1.heap.size := Nat.le_trans y0 hn1.size
      have c1E2 := FmtX.New.at hn1 c0E2
      have c1k0a := FmtX.New.at hn1 c0k0a
      have c1k0b := FmtX.New.at hn1 c0k0b
      have c1k0c := FmtX.New.at hn1 c0k0c
      have c1k1a := FmtX.New.at hn1 c0k1a
      have c1k1b := FmtX.New.at hn1 c0k1b
      have c1k1c := FmtX.New.at hn1 c0k1c
      have c1k2a := FmtX.New.at hn1 c0k2a
      have c1k2b := FmtX.New.at hn1 c0k2b
      have c1k2c := FmtX.New.at hn1 c0k2c
      refine hK.out _ _ ?_ (fun hHeld2 => ?_)
      · exact ⟨c1E2, c1k0a, c1k0b, c1k0c, c1k1a, c1k1b, c1k1c, c1k2a, c1k2b, c1k2c⟩
      clear hK K hHeld
      have hHeld := hHeld2
      clear hHeld2
      try simp only [AP]
      refine HT 5 rfl ?_
      try simp only [AP]
      refine HT 6 rfl ?_
      try simp only [AP]
      refine HR 11 rfl fun K hK => ?_
      go_simp
      refine (ihh.out w1 (d - 1) (.slice a1 x1.kids.length e1) x1.kind x1.val x1.kids (by omega) (by omega) (by rw [← hx1.out]; exact hk1.out) (kk1.out.new y0 M1.out) (show hi ≤ w1.heap.size from y1)).mono ?_
      rintro e w2 ⟨rfl, hn2⟩
      rw [← hx1.out, hT1.out]
      have M2 := Lib.hid (M1.out.trans hn2)
      have y2 : hi ≤ w2.heap.size := Nat.le_trans y1 hn2.size
      have c2E2 := FmtX.New.at hn2 c1E2
      have c2k0a := FmtX.New.at hn2 c1k0a
      have c2k0b := FmtX.New.at hn2 c1k0b
      have c2k0c := FmtX.New.at hn2 c1k0c
      have c2k1a := FmtX.New.at hn2 c1k1a
      have c2k1b := FmtX.New.at hn2 c1k1b
      have c2k1c := FmtX.New.at hn2 c1k1c
      have c2k2a := FmtX.New.at hn2 c1k2a
      have c2k2b := FmtX.New.at hn2 c1k2b
      have c2k2c := FmtX.New.at hn2 c1k2c
      refine hK.out _ _ ?_ (fun hHeld2 => ?_)
      · exact ⟨c2E2, c2k0a, c2k0b, c2k0c, c2k1a, c2k1b, c2k1c, c2k2a, c2k2b, c2k2c⟩
      clear hK K hHeld
      have hHeld := hHeld2
      clear hHeld2
      try simp only [AP]
      refine HT 12 rfl ?_
      try simp only [AP]
      refine HT 13 rfl ?_
      try simp only [AP]
      refine HR 18 rfl fun K hK => ?_
      go_simp
      refine (ihh.out w2 (d - 1) (.slice a2 x2.kids.length e2) x2.kind x2.val x2.kids (by omega) (by omega) (by rw [← hx2.out]; exact hk2.out) (kk2.out.new y0 M2.out) (show hi ≤ w2.heap.size from y2)).mono ?_
      rintro e w3 ⟨rfl, hn3⟩
      rw [← hx2.out, hT2.out]
      have M3 := Lib.hid (M2.out.trans hn3)
      have y3 : hi ≤ w3.heap.size := Nat.le_trans y2 hn3.size
      have c3E2 := FmtX.New.at hn3 c2E2
      have c3k0a := FmtX.New.at hn3 c2k0a
      have c3k0b := FmtX.New.at hn3 c2k0b
      have c3k0c := FmtX.New.at hn3 c2k0c
      have c3k1a := FmtX.New.at hn3 c2k1a
      have c3k1b := FmtX.New.at hn3 c2k1b
      have c3k1c := FmtX.New.at hn3 c2k1c
      have c3k2a := FmtX.New.at hn3 c2k2a
      have c3k2b := FmtX.New.at hn3 c2k2b
      have c3k2c := FmtX.New.at hn3 c2k2c
      refine hK.out _ _ ?_ (fun hHeld2 => ?_)
      · exact ⟨c3E2, c3k0a, c3k0b, c3k0c, c3k1a, c3k1b, c3k1c, c3k2a, c3k2b, c3k2c⟩
      clear hK K hHeld
      have hHeld := hHeld2
      clear hHeld2
      try simp only [AP]
      refine HT 19 rfl ?_
      try simp only [AP]
      refine HT 20 rfl ?_
      try simp only [AP]
      refine HT 21 rfl ?_
      try simp only [AP]
      refine wpAnyH_done (by kernel_rfl) ?_ _
      have N9 := Lib.hid (K0.out.trans M3.out)
      clear c0E2 c0k0a c0k0b c0k0c c0k1a c0k1b c0k1c c0k2a c0k2b c0k2c c1E2 c1k0a c1k0b c1k0c c1k1a c1k1b c1k1c c1k2a c1k2b c1k2c c2E2 c2k0a c2k0b c2k0c c2k1a c2k1b c2k1c c2k2a c2k2b c2k2c c3E2 c3k0a c3k0b c3k0c c3k1a c3k1b c3k1c c3k2a c3k2b c3k2c hn1 hn2 hn3
      go_wp2
      go_ret
      exact ⟨by rw [← hR.out]; rfl, N9.out⟩
set_option maxHeartbeats 4000000 in
set_option maxRecDepth 100000 in
theorem specFE {w : World} {lo hi lo' hi' : Nat} {ta tb tc : Value} {xa xb : List Int} {k v : Int} {s : Value} {l : List Ex} (sa : IntsR w lo hi ta xa) (sb : IntsR w lo hi tb xb) (hs : KidsR w lo' hi' s l) (h1 : hi ≤ w.heap.size) (h2 : hi' ≤ w.heap.size) (hm : Ex.sizes l + 1 ≤ 2097152) :
    Calls Tryd.prog 13 #[.agg #[ta, tb, tc], .agg #[.int .i64 k, .int .i64 v, s]] w fun e w' => e = .returned (.string (textX xa xb (.node k v l))) ∧ New w w' := by
  obtain ⟨a, c, rfl, m1⟩ := sa.len
  obtain ⟨a1, c1, rfl, m2⟩ := sb.len
  obtain ⟨a2, c2, rfl, m3⟩ := hs.len
  have N0 : New w ((w.alloc (.cells #[.slice a xa.length c, .slice a1 xb.length c1, tc] 41)).alloc (.cells #[.int .i64 k, .int .i64 v, .slice a2 l.length c2] 45)) := ((Kp.refl _ _).alloc _).alloc _
  have bA0 : ((w.alloc (.cells #[.slice a xa.length c, .slice a1 xb.length c1, tc] 41)).alloc (.cells #[.int .i64 k, .int .i64 v, .slice a2 l.length c2] 45)).heap[w.heap.size]? = some (.cells #[.slice a xa.length c, .slice a1 xb.length c1, tc] 41) := heap_old (alloc_heap _ _)
  have bB0 : ((w.alloc (.cells #[.slice a xa.length c, .slice a1 xb.length c1, tc] 41)).alloc (.cells #[.int .i64 k, .int .i64 v, .slice a2 l.length c2] 45)).heap[w.heap.size + 1]? = some (.cells #[.int .i64 k, .int .i64 v, .slice a2 l.length c2] 45) := heap_at (by simp)
  go_enter Tryd.func13, Tryd.ntmps13
  go_wp2_with fail
  generalize ((w.alloc (.cells #[.slice a xa.length c, .slice a1 xb.length c1, tc] 41)).alloc (.cells #[.int .i64 k, .int .i64 v, .slice a2 l.length c2] 45)) = w0 at *
  have z0 := N0.size
  refine (ExprV.specV (sa.new h1 N0) (sb.new h1 N0) (hs.new h2 N0) (by omega) (by omega) (by omega)).mono ?_
  rintro e w1 ⟨rfl, hn1⟩
  have N1 := Lib.hid (N0.trans hn1)
  have bA1 := heap_new hn1 bA0
  have bB1 := heap_new hn1 bB0
  obtain ⟨bA1_0, bA1_1, bA1_2⟩ := cells3 bA1
  obtain ⟨bB1_0, bB1_1, bB1_2⟩ := cells3 bB1
  clear bA0 bB0 hn1 N0 bA1 bB1
  have z1 := N1.out.size
  cases hd : exprB xa xb (.node k v l)
  · have D := Lib.hid (show textX xa xb (.node k v l) = ⟨#[]⟩ by rw [textX, hd]; rfl)
    clear hd
    go_wp2
    go_ret
    exact ⟨by rw [D.out]; rfl, N1.out⟩
  · have D := Lib.hid (show textX xa xb (.node k v l) = ⟨(tx (.node k v l)).toArray⟩ by rw [textX, hd]; rfl)
    have hq : declB xa xb = true ∧ right xa.length xb.length (.node k v l) = true := by rw [exprB, Bool.and_eq_true] at hd; exact hd
    have hl : xa.length ≤ 12 ∧ xb.length ≤ 2 := by
      have := hq.1
      simp only [declB, Bool.and_eq_true, decide_eq_true_eq] at this
      exact ⟨this.1.1.1.2, this.1.1.2⟩
    have hsh := Lib.hid (right_shp hq.2).1
    have hs1 := Lib.hid (hs.new h2 N1.out)
    clear hd hq
    go_wp2_with fail
    refine (specX lo' hi' xa.length xb.length hl.1 hl.2 (Ex.sizes l + 1) w1 5 _ k v l (by omega) hm hsh.out hs1.out (by omega)).mono ?_
    rintro e w2 ⟨rfl, hn2⟩
    rw [← D.out]
    have N2 := Lib.hid (N1.out.trans hn2)
    clear hn2
    go_wp2
    go_ret
    exact ⟨rfl, N2.out⟩
set_option maxHeartbeats 16000000 in
set_option maxRecDepth 100000 in
theorem implX (lo hi nv na : Nat) (hnv : nv ≤ 12) (hna : na ≤ 2) : ∀ (n : Nat) (w : World) (d : Nat) (s : Value) (k v : Int) (ks : List Ex), Ex.sizes ks < n → n ≤ 2097152 → shp nv na (.node k v ks) d = true → KidsR w lo hi s ks → hi ≤ w.heap.size → DecT.Tab w →
    Calls Tryd.prog 35 #[.agg #[.int .i64 k, .int .i64 v, s]] w fun e w' => e = .returned (.string ⟨(tx (.node k v ks)).toArray⟩) ∧ New w w' := by
  intro n
  induction n with
  | zero => intro w d s k v ks h; exact absurd h (Nat.not_lt_zero _)
  | succ n ih =>
    intro w d s k v ks hn hn2 hsh hs hhi ht
    obtain ⟨a, d1, rfl, hkl⟩ := hs.len
    have K0 := Lib.hid (show New w (w.alloc (.cells #[.int .i64 k, .int .i64 v, .slice a ks.length d1] 45)) from (Kp.refl _ _).alloc _)
    have bE0 := alloc_heap w (.cells #[.int .i64 k, .int .i64 v, .slice a ks.length d1] 45)
    have hs0 := Lib.hid (hs.new hhi K0.out)
    have y0 : hi ≤ (w.alloc (.cells #[.int .i64 k, .int .i64 v, .slice a ks.length d1] 45)).heap.size := Nat.le_trans hhi K0.out.size
    have hshh := Lib.hid hsh
    have htb := Lib.hid ht
    have ihh := Lib.hid ih
    obtain ⟨G, hG⟩ : ∃ G : ByteArray, G = ⟨(tx (.node k v ks)).toArray⟩ := ⟨_, rfl⟩
    have hGh := Lib.hid hG
    rw [← hG]
    clear hG hsh ih hs ht
    go_enter Tryd.func35, Tryd.ntmps35
    go_upto_region 1 with fail
    generalize hbE : w.heap.size = bE at bE0 ⊢
    clear hbE
    generalize (w.alloc (.cells #[.int .i64 k, .int .i64 v, .slice a ks.length d1] 45)) = w0 at *
    obtain ⟨c0E0, c0E1, c0E2⟩ := cells3 bE0
    rcases kinds hshh.out with ⟨rfl, e1, e2, e3⟩ | ⟨rfl, e1, e2, e3⟩ | ⟨rfl, e1, e2, e3⟩ | ⟨e1, e1', e2, rfl⟩ | ⟨rfl, e1, rfl⟩
    · obtain ⟨m, rfl⟩ := Int.eq_ofNat_of_zero_le e2
      have hR := Lib.hid (show (⟨(dg m).toArray⟩ : ByteArray) = G by rw [hGh.out]; rfl)
      go_wp2_with fail
      refine (DecT.itoa _ (m : Int) (by omega) (by omega) (htb.out.new K0.out)).mono ?_
      rintro e w2 ⟨rfl, hn2⟩
      rw [Int.toNat_natCast]
      have N9 := Lib.hid (K0.out.trans hn2)
      rw [hR.out]
      clear hn2
      go_wp2
      go_ret
      exact ⟨rfl, N9.out⟩
    · obtain ⟨m, rfl⟩ := Int.eq_ofNat_of_zero_le e2
      have hR := Lib.hid (show (⟨#[UInt8.ofNat (97 + m)]⟩ : ByteArray) = G by rw [hGh.out]; rfl)
      go_wp2_with fail
      refine (DecT.varText _ m (by omega)).mono ?_
      rintro e w2 ⟨rfl, hn2⟩
      have N9 := Lib.hid (K0.out.trans hn2)
      rw [hR.out]
      clear hn2
      go_wp2
      go_ret
      exact ⟨rfl, N9.out⟩
    · obtain ⟨m, rfl⟩ := Int.eq_ofNat_of_zero_le e2
      have hm2 : m < 2 := by omega
      have l0 : 0 < ks.length := by omega
      obtain ⟨b0, o0, s0, hb0, q01, q02, p0a, p0b, p0c, kk0⟩ := hs0.out.at 0 l0
      obtain ⟨a0, e0, rfl, hkl0⟩ := kk0.len
      have hg0 := Ex.kids_get ks 0 l0
      have hz0 : (tx ks[0]).length ≤ 8 * ks[0].size := FmtX.tx_len nv na _ (d - 1) _ (Nat.le_refl _) (kids hshh.out 0 l0)
      have hy0 := Ex.sizes_get ks 0 l0
      have hx0 := Lib.hid (show ks[0] = .node ks[0].kind ks[0].val ks[0].kids by cases ks[0]; rfl)
      have hk0 := Lib.hid (kids hshh.out 0 l0)
      have kk0 := Lib.hid kk0
      have g0 := t0_get ks 0 l0
      obtain ⟨T0, hT0⟩ : ∃ T : ByteArray, (⟨(tx ks[0]).toArray⟩ : ByteArray) = T := ⟨_, rfl⟩
      have ht0 : T0.size ≤ 16777216 := by rw [← hT0, size_toList]; simp only; omega
      have hd0 : T0.data.toList = tx ks[0] := by rw [← hT0]
      have hT0 := Lib.hid hT0
      obtain ⟨C, hC0⟩ : ∃ C : ByteArray, C = ⟨#[UInt8.ofNat (80 + m)]⟩ := ⟨_, rfl⟩
      have hC : C.data.toList = [UInt8.ofNat (80 + m)] := by rw [hC0]
      have hCl : C.size = 1 := by rw [hC0]; rfl
      have hR := Lib.hid (show C ++ (⟨#[91]⟩ : ByteArray) ++ T0 ++ (⟨#[93]⟩ : ByteArray) = G from by
        rw [hGh.out]
        apply ba_ext
        rw [app_toList, app_toList, app_toList, hd0, hC]
        show _ = opX _ _ _
        rw [opX, if_neg (by decide), if_neg (by decide), if_pos rfl, Int.toNat_natCast, g0]
        all_goals first | rfl | simp)
      have hq91 : (⟨#[91]⟩ : ByteArray).size = 1 := rfl
      have hq93 : (⟨#[93]⟩ : ByteArray).size = 1 := rfl
      have bS0 := FmtT.addS (C) (⟨#[91]⟩ : ByteArray) (by (try simp only [ByteArray.size_append]); omega)
      have bO0 := FmtT.addO (C) (⟨#[91]⟩ : ByteArray) (by (try simp only [ByteArray.size_append]); omega)
      have bS1 := FmtT.addS (C ++ (⟨#[91]⟩ : ByteArray)) T0 (by (try simp only [ByteArray.size_append]); omega)
      have bO1 := FmtT.addO (C ++ (⟨#[91]⟩ : ByteArray)) T0 (by (try simp only [ByteArray.size_append]); omega)
      have bS2 := FmtT.addS (C ++ (⟨#[91]⟩ : ByteArray) ++ T0) (⟨#[93]⟩ : ByteArray) (by (try simp only [ByteArray.size_append]); omega)
      have bO2 := FmtT.addO (C ++ (⟨#[91]⟩ : ByteArray) ++ T0) (⟨#[93]⟩ : ByteArray) (by (try simp only [ByteArray.size_append]); omega)
      clear hq91 hq93 hd0 ht0 hCl
      clear hz0 hy0 g0
      generalize ks[0] = x0 at *
      have hCh := Lib.hid hC0
      clear hC hC0
      subst hb0
      have c0k0a : w0.cell? ⟨b0, o0, none⟩ = some (.int .i64 x0.kind) := p0a
      have c0k0b : w0.cell? ⟨b0, o0 + 1, none⟩ = some (.int .i64 x0.val) := p0b
      have c0k0c : w0.cell? ⟨b0, o0 + 2, none⟩ = some (.slice a0 x0.kids.length e0) := p0c
      go_wp2_with fail
      refine wp_region_held_drew (S := fun w' => w'.cell? ⟨bE, 1, none⟩ = some (.int .i64 (m : Int)) ∧ w'.cell? ⟨bE, 2, none⟩ = some (.slice (some ⟨b0, o0, none⟩) ks.length d1) ∧ w'.cell? ⟨b0, o0, none⟩ = some (.int .i64 x0.kind) ∧ w'.cell? ⟨b0, o0 + 1, none⟩ = some (.int .i64 x0.val) ∧ w'.cell? ⟨b0, o0 + 2, none⟩ = some (.slice a0 x0.kids.length e0)) (by kernel_rfl) ?_ (fun hHeld => ?_)
      · exact ⟨c0E1, c0E2, c0k0a, c0k0b, c0k0c⟩
      refine HT 0 rfl ?_
      try simp only [AP]
      refine HT 1 rfl ?_
      try simp only [AP]
      refine HT 4 rfl ?_
      try simp only [AP]
      refine HT 5 rfl ?_
      try simp only [AP]
      refine HT 6 rfl ?_
      try simp only [AP]
      refine HT 7 rfl ?_
      try simp only [AP]
      refine HR 2 rfl fun K hK => ?_
      go_simp
      refine (DecT.arrayText _ m (by omega)).mono ?_
      rintro e w1 ⟨rfl, hn1⟩
      rw [← hCh.out]
      have M1 := Lib.hid (((Kp.refl _ w0).drew).trans hn1)
      have y1 : hi ≤ w1.heap.size := Nat.le_trans y0 hn1.size
      have c1E1 := FmtX.New.at hn1 c0E1
      have c1E2 := FmtX.New.at hn1 c0E2
      have c1k0a := FmtX.New.at hn1 c0k0a
      have c1k0b := FmtX.New.at hn1 c0k0b
      have c1k0c := FmtX.New.at hn1 c0k0c
      refine hK.out _ _ ?_ (fun hHeld2 => ?_)
      · exact ⟨c1E1, c1E2, c1k0a, c1k0b, c1k0c⟩
      clear hK K hHeld
      have hHeld := hHeld2
      clear hHeld2
      try simp only [AP]
      refine HT 3 rfl ?_
      try simp only [AP]
      refine HR 8 rfl fun K hK => ?_
      go_simp
      refine (ihh.out w1 (d - 1) (.slice a0 x0.kids.length e0) x0.kind x0.val x0.kids (by omega) (by omega) (by rw [← hx0.out]; exact hk0.out) (kk0.out.new y0 M1.out) (show hi ≤ w1.heap.size from y1) (htb.out.new (K0.out.trans M1.out))).mono ?_
      rintro e w2 ⟨rfl, hn2⟩
      rw [← hx0.out, hT0.out]
      have M2 := Lib.hid (M1.out.trans hn2)
      have y2 : hi ≤ w2.heap.size := Nat.le_trans y1 hn2.size
      have c2E1 := FmtX.New.at hn2 c1E1
      have c2E2 := FmtX.New.at hn2 c1E2
      have c2k0a := FmtX.New.at hn2 c1k0a
      have c2k0b := FmtX.New.at hn2 c1k0b
      have c2k0c := FmtX.New.at hn2 c1k0c
      refine hK.out _ _ ?_ (fun hHeld2 => ?_)
      · exact ⟨c2E1, c2E2, c2k0a, c2k0b, c2k0c⟩
      clear hK K hHeld
      have hHeld := hHeld2
      clear hHeld2
      try simp only [AP]
      refine HT 9 rfl ?_
      try simp only [AP]
      refine HT 10 rfl ?_
      try simp only [AP]
      refine HT 11 rfl ?_
      try simp only [AP]
      refine wpAnyH_done (by kernel_rfl) ?_ _
      have N9 := Lib.hid (K0.out.trans M2.out)
      clear c0E1 c0E2 c0k0a c0k0b c0k0c c1E1 c1E2 c1k0a c1k0b c1k0c c2E1 c2E2 c2k0a c2k0b c2k0c hn1 hn2
      go_wp2
      go_ret
      exact ⟨by rw [← hR.out]; rfl, N9.out⟩
    · have l0 : 0 < ks.length := by omega
      obtain ⟨b0, o0, s0, hb0, q01, q02, p0a, p0b, p0c, kk0⟩ := hs0.out.at 0 l0
      obtain ⟨a0, e0, rfl, hkl0⟩ := kk0.len
      have hg0 := Ex.kids_get ks 0 l0
      have hz0 : (tx ks[0]).length ≤ 8 * ks[0].size := FmtX.tx_len nv na _ (d - 1) _ (Nat.le_refl _) (kids hshh.out 0 l0)
      have hy0 := Ex.sizes_get ks 0 l0
      have hx0 := Lib.hid (show ks[0] = .node ks[0].kind ks[0].val ks[0].kids by cases ks[0]; rfl)
      have hk0 := Lib.hid (kids hshh.out 0 l0)
      have kk0 := Lib.hid kk0
      have g0 := t0_get ks 0 l0
      have l1 : 1 < ks.length := by omega
      obtain ⟨b1, o1, s1, hb1, q11, q12, p1a, p1b, p1c, kk1⟩ := hs0.out.at 1 l1
      obtain ⟨a1, e1, rfl, hkl1⟩ := kk1.len
      have hg1 := Ex.kids_get ks 1 l1
      have hz1 : (tx ks[1]).length ≤ 8 * ks[1].size := FmtX.tx_len nv na _ (d - 1) _ (Nat.le_refl _) (kids hshh.out 1 l1)
      have hy1 := Ex.sizes_get ks 1 l1
      have hx1 := Lib.hid (show ks[1] = .node ks[1].kind ks[1].val ks[1].kids by cases ks[1]; rfl)
      have hk1 := Lib.hid (kids hshh.out 1 l1)
      have kk1 := Lib.hid kk1
      have g1 := t0_get ks 1 l1
      obtain ⟨T0, hT0⟩ : ∃ T : ByteArray, (⟨(tx ks[0]).toArray⟩ : ByteArray) = T := ⟨_, rfl⟩
      have ht0 : T0.size ≤ 16777216 := by rw [← hT0, size_toList]; simp only; omega
      have hd0 : T0.data.toList = tx ks[0] := by rw [← hT0]
      have hT0 := Lib.hid hT0
      obtain ⟨T1, hT1⟩ : ∃ T : ByteArray, (⟨(tx ks[1]).toArray⟩ : ByteArray) = T := ⟨_, rfl⟩
      have ht1 : T1.size ≤ 16777216 := by rw [← hT1, size_toList]; simp only; omega
      have hd1 : T1.data.toList = tx ks[1] := by rw [← hT1]
      have hT1 := Lib.hid hT1
      obtain ⟨C, hC0⟩ : ∃ C : ByteArray, C = ⟨#[sn k]⟩ := ⟨_, rfl⟩
      have hC : C.data.toList = [sn k] := by rw [hC0]
      have hCl : C.size = 1 := by rw [hC0]; rfl
      have hR := Lib.hid (show (⟨#[40]⟩ : ByteArray) ++ T0 ++ C ++ T1 ++ (⟨#[41]⟩ : ByteArray) = G from by
        rw [hGh.out]
        apply ba_ext
        rw [app_toList, app_toList, app_toList, app_toList, hd0, hd1, hC]
        show _ = opX _ _ _
        rw [opX, if_neg (by omega), if_neg (by omega), if_neg (by omega), if_neg (by omega), g0, g1]
        all_goals first | rfl | simp)
      have hq40 : (⟨#[40]⟩ : ByteArray).size = 1 := rfl
      have hq41 : (⟨#[41]⟩ : ByteArray).size = 1 := rfl
      have bS0 := FmtT.addS ((⟨#[40]⟩ : ByteArray)) T0 (by (try simp only [ByteArray.size_append]); omega)
      have bO0 := FmtT.addO ((⟨#[40]⟩ : ByteArray)) T0 (by (try simp only [ByteArray.size_append]); omega)
      have bS1 := FmtT.addS ((⟨#[40]⟩ : ByteArray) ++ T0) C (by (try simp only [ByteArray.size_append]); omega)
      have bO1 := FmtT.addO ((⟨#[40]⟩ : ByteArray) ++ T0) C (by (try simp only [ByteArray.size_append]); omega)
      have bS2 := FmtT.addS ((⟨#[40]⟩ : ByteArray) ++ T0 ++ C) T1 (by (try simp only [ByteArray.size_append]); omega)
      have bO2 := FmtT.addO ((⟨#[40]⟩ : ByteArray) ++ T0 ++ C) T1 (by (try simp only [ByteArray.size_append]); omega)
      have bS3 := FmtT.addS ((⟨#[40]⟩ : ByteArray) ++ T0 ++ C ++ T1) (⟨#[41]⟩ : ByteArray) (by (try simp only [ByteArray.size_append]); omega)
      have bO3 := FmtT.addO ((⟨#[40]⟩ : ByteArray) ++ T0 ++ C ++ T1) (⟨#[41]⟩ : ByteArray) (by (try simp only [ByteArray.size_append]); omega)
      clear hq40 hq41 hd0 ht0 hd1 ht1 hCl
      clear hz0 hy0 g0
      generalize ks[0] = x0 at *
      clear hz1 hy1 g1
      generalize ks[1] = x1 at *
      have qq := slS (by omega) (by omega) hC0
      have qq2 := slS2 (by omega) (by omega) hC0
      have hw1 : IntKind.i64.wrap (k - 4) = k - 4 := IntWalk.i64_in _ (by omega)
      have hw2 : IntKind.i64.wrap (k - 4 + 1) = k - 4 + 1 := IntWalk.i64_in _ (by omega)
      have hw3 : IntKind.i64.wrap (k - 3) = k - 3 := IntWalk.i64_in _ (by omega)
      have n1 : (k == 1) = false := by rw [beq_eq_false_iff_ne]; omega
      have n2 : (k == 2) = false := by rw [beq_eq_false_iff_ne]; omega
      have n3 : (k == 3) = false := by rw [beq_eq_false_iff_ne]; omega
      have n11 : (k == 11) = false := by rw [beq_eq_false_iff_ne]; omega
      clear hC hC0
      subst hb0
      cases hb1
      have c0k0a : w0.cell? ⟨b0, o0, none⟩ = some (.int .i64 x0.kind) := p0a
      have c0k0b : w0.cell? ⟨b0, o0 + 1, none⟩ = some (.int .i64 x0.val) := p0b
      have c0k0c : w0.cell? ⟨b0, o0 + 2, none⟩ = some (.slice a0 x0.kids.length e0) := p0c
      have c0k1a : w0.cell? ⟨b0, o0 + 3, none⟩ = some (.int .i64 x1.kind) := p1a
      have c0k1b : w0.cell? ⟨b0, o0 + 4, none⟩ = some (.int .i64 x1.val) := p1b
      have c0k1c : w0.cell? ⟨b0, o0 + 5, none⟩ = some (.slice a1 x1.kids.length e1) := p1c
      go_wp2_with fail
      refine wp_region_held_drew (S := fun w' => w'.cell? ⟨bE, 0, none⟩ = some (.int .i64 k) ∧ w'.cell? ⟨bE, 2, none⟩ = some (.slice (some ⟨b0, o0, none⟩) ks.length d1) ∧ w'.cell? ⟨b0, o0, none⟩ = some (.int .i64 x0.kind) ∧ w'.cell? ⟨b0, o0 + 1, none⟩ = some (.int .i64 x0.val) ∧ w'.cell? ⟨b0, o0 + 2, none⟩ = some (.slice a0 x0.kids.length e0) ∧ w'.cell? ⟨b0, o0 + 3, none⟩ = some (.int .i64 x1.kind) ∧ w'.cell? ⟨b0, o0 + 4, none⟩ = some (.int .i64 x1.val) ∧ w'.cell? ⟨b0, o0 + 5, none⟩ = some (.slice a1 x1.kids.length e1)) (by kernel_rfl) ?_ (fun hHeld => ?_)
      · exact ⟨c0E0, c0E2, c0k0a, c0k0b, c0k0c, c0k1a, c0k1b, c0k1c⟩
      refine HT 0 rfl ?_
      try simp only [AP]
      refine HT 1 rfl ?_
      try simp only [AP]
      refine HT 2 rfl ?_
      try simp only [AP]
      refine HT 3 rfl ?_
      try simp only [AP]
      refine HT 6 rfl ?_
      try simp only [AP]
      refine HT 7 rfl ?_
      try simp only [AP]
      refine HT 8 rfl ?_
      try simp only [AP]
      refine HT 9 rfl ?_
      try simp only [AP]
      refine HT 10 rfl ?_
      try simp only [AP]
      refine HT 11 rfl ?_
      try simp only [AP]
      refine HT 12 rfl ?_
      try simp only [AP]
      refine HT 13 rfl ?_
      try simp only [AP]
      refine HT 15 rfl ?_
      try simp only [AP]
      refine HT 16 rfl ?_
      try simp only [AP]
      refine HT 17 rfl ?_
      try simp only [AP]
      refine HT 18 rfl ?_
      try simp only [AP]
      refine HR 4 rfl fun K hK => ?_
      go_simp
      refine (ihh.out w0.drew (d - 1) (.slice a0 x0.kids.length e0) x0.kind x0.val x0.kids (by omega) (by omega) (by rw [← hx0.out]; exact hk0.out) (kk0.out.new y0 ((Kp.refl _ w0).drew)) (show hi ≤ w0.heap.size from y0) (htb.out.new (K0.out.trans ((Kp.refl _ w0).drew)))).mono ?_
      rintro e w1 ⟨rfl, hn1⟩
      rw [← hx0.out, hT0.out]
      have M1 := Lib.hid (((Kp.refl _ w0).drew).trans hn1)
      have y1 : hi ≤ w1.heap.size := Nat.le_trans y0 hn1.size
      have c1E0 := FmtX.New.at hn1 c0E0
      have c1E2 := FmtX.New.at hn1 c0E2
      have c1k0a := FmtX.New.at hn1 c0k0a
      have c1k0b := FmtX.New.at hn1 c0k0b
      have c1k0c := FmtX.New.at hn1 c0k0c
      have c1k1a := FmtX.New.at hn1 c0k1a
      have c1k1b := FmtX.New.at hn1 c0k1b
      have c1k1c := FmtX.New.at hn1 c0k1c
      refine hK.out _ _ ?_ (fun hHeld2 => ?_)
      · exact ⟨c1E0, c1E2, c1k0a, c1k0b, c1k0c, c1k1a, c1k1b, c1k1c⟩
      clear hK K hHeld
      have hHeld := hHeld2
      clear hHeld2
      try simp only [AP]
      refine HT 5 rfl ?_
      try simp only [AP]
      refine HT 14 rfl ?_
      try simp only [AP]
      refine HR 19 rfl fun K hK => ?_
      go_simp
      refine (ihh.out w1 (d - 1) (.slice a1 x1.kids.length e1) x1.kind x1.val x1.kids (by omega) (by omega) (by rw [← hx1.out]; exact hk1.out) (kk1.out.new y0 M1.out) (show hi ≤ w1.heap.size from y1) (htb.out.new (K0.out.trans M1.out))).mono ?_
      rintro e w2 ⟨rfl, hn2⟩
      rw [← hx1.out, hT1.out]
      have M2 := Lib.hid (M1.out.trans hn2)
      have y2 : hi ≤ w2.heap.size := Nat.le_trans y1 hn2.size
      have c2E0 := FmtX.New.at hn2 c1E0
      have c2E2 := FmtX.New.at hn2 c1E2
      have c2k0a := FmtX.New.at hn2 c1k0a
      have c2k0b := FmtX.New.at hn2 c1k0b
      have c2k0c := FmtX.New.at hn2 c1k0c
      have c2k1a := FmtX.New.at hn2 c1k1a
      have c2k1b := FmtX.New.at hn2 c1k1b
      have c2k1c := FmtX.New.at hn2 c1k1c
      refine hK.out _ _ ?_ (fun hHeld2 => ?_)
      · exact ⟨c2E0, c2E2, c2k0a, c2k0b, c2k0c, c2k1a, c2k1b, c2k1c⟩
      clear hK K hHeld
      have hHeld := hHeld2
      clear hHeld2
      try simp only [AP]
      refine HT 20 rfl ?_
      try simp only [AP]
      refine HT 21 rfl ?_
      try simp only [AP]
      refine HT 22 rfl ?_
      try simp only [AP]
      refine wpAnyH_done (by kernel_rfl) ?_ _
      have N9 := Lib.hid (K0.out.trans M2.out)
      clear c0E0 c0E2 c0k0a c0k0b c0k0c c0k1a c0k1b c0k1c c1E0 c1E2 c1k0a c1k0b c1k0c c1k1a c1k1b c1k1c c2E0 c2E2 c2k0a c2k0b c2k0c c2k1a c2k1b c2k1c hn1 hn2
      go_wp2
      go_ret
      exact ⟨by rw [← hR.out]; rfl, N9.out⟩
    · have l0 : 0 < ks.length := by omega
      obtain ⟨b0, o0, s0, hb0, q01, q02, p0a, p0b, p0c, kk0⟩ := hs0.out.at 0 l0
      obtain ⟨a0, e0, rfl, hkl0⟩ := kk0.len
      have hg0 := Ex.kids_get ks 0 l0
      have hz0 : (tx ks[0]).length ≤ 8 * ks[0].size := FmtX.tx_len nv na _ (d - 1) _ (Nat.le_refl _) (kids hshh.out 0 l0)
      have hy0 := Ex.sizes_get ks 0 l0
      have hx0 := Lib.hid (show ks[0] = .node ks[0].kind ks[0].val ks[0].kids by cases ks[0]; rfl)
      have hk0 := Lib.hid (kids hshh.out 0 l0)
      have kk0 := Lib.hid kk0
      have g0 := t0_get ks 0 l0
      have l1 : 1 < ks.length := by omega
      obtain ⟨b1, o1, s1, hb1, q11, q12, p1a, p1b, p1c, kk1⟩ := hs0.out.at 1 l1
      obtain ⟨a1, e1, rfl, hkl1⟩ := kk1.len
      have hg1 := Ex.kids_get ks 1 l1
      have hz1 : (tx ks[1]).length ≤ 8 * ks[1].size := FmtX.tx_len nv na _ (d - 1) _ (Nat.le_refl _) (kids hshh.out 1 l1)
      have hy1 := Ex.sizes_get ks 1 l1
      have hx1 := Lib.hid (show ks[1] = .node ks[1].kind ks[1].val ks[1].kids by cases ks[1]; rfl)
      have hk1 := Lib.hid (kids hshh.out 1 l1)
      have kk1 := Lib.hid kk1
      have g1 := t0_get ks 1 l1
      have l2 : 2 < ks.length := by omega
      obtain ⟨b2, o2, s2, hb2, q21, q22, p2a, p2b, p2c, kk2⟩ := hs0.out.at 2 l2
      obtain ⟨a2, e2, rfl, hkl2⟩ := kk2.len
      have hg2 := Ex.kids_get ks 2 l2
      have hz2 : (tx ks[2]).length ≤ 8 * ks[2].size := FmtX.tx_len nv na _ (d - 1) _ (Nat.le_refl _) (kids hshh.out 2 l2)
      have hy2 := Ex.sizes_get ks 2 l2
      have hx2 := Lib.hid (show ks[2] = .node ks[2].kind ks[2].val ks[2].kids by cases ks[2]; rfl)
      have hk2 := Lib.hid (kids hshh.out 2 l2)
      have kk2 := Lib.hid kk2
      have g2 := t0_get ks 2 l2
      obtain ⟨T0, hT0⟩ : ∃ T : ByteArray, (⟨(tx ks[0]).toArray⟩ : ByteArray) = T := ⟨_, rfl⟩
      have ht0 : T0.size ≤ 16777216 := by rw [← hT0, size_toList]; simp only; omega
      have hd0 : T0.data.toList = tx ks[0] := by rw [← hT0]
      have hT0 := Lib.hid hT0
      obtain ⟨T1, hT1⟩ : ∃ T : ByteArray, (⟨(tx ks[1]).toArray⟩ : ByteArray) = T := ⟨_, rfl⟩
      have ht1 : T1.size ≤ 16777216 := by rw [← hT1, size_toList]; simp only; omega
      have hd1 : T1.data.toList = tx ks[1] := by rw [← hT1]
      have hT1 := Lib.hid hT1
      obtain ⟨T2, hT2⟩ : ∃ T : ByteArray, (⟨(tx ks[2]).toArray⟩ : ByteArray) = T := ⟨_, rfl⟩
      have ht2 : T2.size ≤ 16777216 := by rw [← hT2, size_toList]; simp only; omega
      have hd2 : T2.data.toList = tx ks[2] := by rw [← hT2]
      have hT2 := Lib.hid hT2
      have hR := Lib.hid (show (⟨#[40]⟩ : ByteArray) ++ T0 ++ (⟨#[63]⟩ : ByteArray) ++ T1 ++ (⟨#[58]⟩ : ByteArray) ++ T2 ++ (⟨#[41]⟩ : ByteArray) = G from by
        rw [hGh.out]
        apply ba_ext
        rw [app_toList, app_toList, app_toList, app_toList, app_toList, app_toList, hd0, hd1, hd2]
        show _ = opX _ _ _
        rw [opX, if_neg (by decide), if_neg (by decide), if_neg (by decide), if_pos rfl, g0, g1, g2]
        all_goals first | rfl | simp)
      have hq40 : (⟨#[40]⟩ : ByteArray).size = 1 := rfl
      have hq63 : (⟨#[63]⟩ : ByteArray).size = 1 := rfl
      have hq58 : (⟨#[58]⟩ : ByteArray).size = 1 := rfl
      have hq41 : (⟨#[41]⟩ : ByteArray).size = 1 := rfl
      have bS0 := FmtT.addS ((⟨#[40]⟩ : ByteArray)) T0 (by (try simp only [ByteArray.size_append]); omega)
      have bO0 := FmtT.addO ((⟨#[40]⟩ : ByteArray)) T0 (by (try simp only [ByteArray.size_append]); omega)
      have bS1 := FmtT.addS ((⟨#[40]⟩ : ByteArray) ++ T0) (⟨#[63]⟩ : ByteArray) (by (try simp only [ByteArray.size_append]); omega)
      have bO1 := FmtT.addO ((⟨#[40]⟩ : ByteArray) ++ T0) (⟨#[63]⟩ : ByteArray) (by (try simp only [ByteArray.size_append]); omega)
      have bS2 := FmtT.addS ((⟨#[40]⟩ : ByteArray) ++ T0 ++ (⟨#[63]⟩ : ByteArray)) T1 (by (try simp only [ByteArray.size_append]); omega)
      have bO2 := FmtT.addO ((⟨#[40]⟩ : ByteArray) ++ T0 ++ (⟨#[63]⟩ : ByteArray)) T1 (by (try simp only [ByteArray.size_append]); omega)
      have bS3 := FmtT.addS ((⟨#[40]⟩ : ByteArray) ++ T0 ++ (⟨#[63]⟩ : ByteArray) ++ T1) (⟨#[58]⟩ : ByteArray) (by (try simp only [ByteArray.size_append]); omega)
      have bO3 := FmtT.addO ((⟨#[40]⟩ : ByteArray) ++ T0 ++ (⟨#[63]⟩ : ByteArray) ++ T1) (⟨#[58]⟩ : ByteArray) (by (try simp only [ByteArray.size_append]); omega)
      have bS4 := FmtT.addS ((⟨#[40]⟩ : ByteArray) ++ T0 ++ (⟨#[63]⟩ : ByteArray) ++ T1 ++ (⟨#[58]⟩ : ByteArray)) T2 (by (try simp only [ByteArray.size_append]); omega)
      have bO4 := FmtT.addO ((⟨#[40]⟩ : ByteArray) ++ T0 ++ (⟨#[63]⟩ : ByteArray) ++ T1 ++ (⟨#[58]⟩ : ByteArray)) T2 (by (try simp only [ByteArray.size_append]); omega)
      have bS5 := FmtT.addS ((⟨#[40]⟩ : ByteArray) ++ T0 ++ (⟨#[63]⟩ : ByteArray) ++ T1 ++ (⟨#[58]⟩ : ByteArray) ++ T2) (⟨#[41]⟩ : ByteArray) (by (try simp only [ByteArray.size_append]); omega)
      have bO5 := FmtT.addO ((⟨#[40]⟩ : ByteArray) ++ T0 ++ (⟨#[63]⟩ : ByteArray) ++ T1 ++ (⟨#[58]⟩ : ByteArray) ++ T2) (⟨#[41]⟩ : ByteArray) (by (try simp only [ByteArray.size_append]); omega)
      clear hq40 hq63 hq58 hq41 hd0 ht0 hd1 ht1 hd2 ht2
      clear hz0 hy0 g0
      generalize ks[0] = x0 at *
      clear hz1 hy1 g1
      generalize ks[1] = x1 at *
      clear hz2 hy2 g2
      generalize ks[2] = x2 at *
      subst hb0
      cases hb1
      cases hb2
      have c0k0a : w0.cell? ⟨b0, o0, none⟩ = some (.int .i64 x0.kind) := p0a
      have c0k0b : w0.cell? ⟨b0, o0 + 1, none⟩ = some (.int .i64 x0.val) := p0b
      have c0k0c : w0.cell? ⟨b0, o0 + 2, none⟩ = some (.slice a0 x0.kids.length e0) := p0c
      have c0k1a : w0.cell? ⟨b0, o0 + 3, none⟩ = some (.int .i64 x1.kind) := p1a
      have c0k1b : w0.cell? ⟨b0, o0 + 4, none⟩ = some (.int .i64 x1.val) := p1b
      have c0k1c : w0.cell? ⟨b0, o0 + 5, none⟩ = some (.slice a1 x1.kids.length e1) := p1c
      have c0k2a : w0.cell? ⟨b0, o0 + 6, none⟩ = some (.int .i64 x2.kind) := p2a
      have c0k2b : w0.cell? ⟨b0, o0 + 7, none⟩ = some (.int .i64 x2.val) := p2b
      have c0k2c : w0.cell? ⟨b0, o0 + 8, none⟩ = some (.slice a2 x2.kids.length e2) := p2c
      go_wp2_with fail
      refine wp_region_held_drew (S := fun w' => w'.cell? ⟨bE, 2, none⟩ = some (.slice (some ⟨b0, o0, none⟩) ks.length d1) ∧ w'.cell? ⟨b0, o0, none⟩ = some (.int .i64 x0.kind) ∧ w'.cell? ⟨b0, o0 + 1, none⟩ = some (.int .i64 x0.val) ∧ w'.cell? ⟨b0, o0 + 2, none⟩ = some (.slice a0 x0.kids.length e0) ∧ w'.cell? ⟨b0, o0 + 3, none⟩ = some (.int .i64 x1.kind) ∧ w'.cell? ⟨b0, o0 + 4, none⟩ = some (.int .i64 x1.val) ∧ w'.cell? ⟨b0, o0 + 5, none⟩ = some (.slice a1 x1.kids.length e1) ∧ w'.cell? ⟨b0, o0 + 6, none⟩ = some (.int .i64 x2.kind) ∧ w'.cell? ⟨b0, o0 + 7, none⟩ = some (.int .i64 x2.val) ∧ w'.cell? ⟨b0, o0 + 8, none⟩ = some (.slice a2 x2.kids.length e2)) (by kernel_rfl) ?_ (fun hHeld => ?_)
      · exact ⟨c0E2, c0k0a, c0k0b, c0k0c, c0k1a, c0k1b, c0k1c, c0k2a, c0k2b, c0k2c⟩
      refine HT 0 rfl ?_
      try simp only [AP]
      refine HT 1 rfl ?_
      try simp only [AP]
      refine HT 2 rfl ?_
      try simp only [AP]
      refine HT 3 rfl ?_
      try simp only [AP]
      refine HT 7 rfl ?_
      try simp only [AP]
      refine HT 8 rfl ?_
      try simp only [AP]
      refine HT 9 rfl ?_
      try simp only [AP]
      refine HT 10 rfl ?_
      try simp only [AP]
      refine HT 14 rfl ?_
      try simp only [AP]
      refine HT 15 rfl ?_
      try simp only [AP]
      refine HT 16 rfl ?_
      try simp only [AP]
      refine HT 17 rfl ?_
      try simp only [AP]
      refine HR 4 rfl fun K hK => ?_
      go_simp
      refine (ihh.out w0.drew (d - 1) (.slice a0 x0.kids.length e0) x0.kind x0.val x0.kids (by omega) (by omega) (by rw [← hx0.out]; exact hk0.out) (kk0.out.new y0 ((Kp.refl _ w0).drew)) (show hi ≤ w0.heap.size from y0) (htb.out.new (K0.out.trans ((Kp.refl _ w0).drew)))).mono ?_
      rintro e w1 ⟨rfl, hn1⟩
      rw [← hx0.out, hT0.out]
      have M1 := Lib.hid (((Kp.refl _ w0).drew).trans hn1)
      have y1 : hi ≤ w1.heap.size := Nat.le_trans y0 hn1.size
      have c1E2 := FmtX.New.at hn1 c0E2
      have c1k0a := FmtX.New.at hn1 c0k0a
      have c1k0b := FmtX.New.at hn1 c0k0b
      have c1k0c := FmtX.New.at hn1 c0k0c
      have c1k1a := FmtX.New.at hn1 c0k1a
      have c1k1b := FmtX.New.at hn1 c0k1b
      have c1k1c := FmtX.New.at hn1 c0k1c
      have c1k2a := FmtX.New.at hn1 c0k2a
      have c1k2b := FmtX.New.at hn1 c0k2b
      have c1k2c := FmtX.New.at hn1 c0k2c
      refine hK.out _ _ ?_ (fun hHeld2 => ?_)
      · exact ⟨c1E2, c1k0a, c1k0b, c1k0c, c1k1a, c1k1b, c1k1c, c1k2a, c1k2b, c1k2c⟩
      clear hK K hHeld
      have hHeld := hHeld2
      clear hHeld2
      try simp only [AP]
      refine HT 5 rfl ?_
      try simp only [AP]
      refine HT 6 rfl ?_
      try simp only [AP]
      refine HR 11 rfl fun K hK => ?_
      go_simp
      refine (ihh.out w1 (d - 1) (.slice a1 x1.kids.length e1) x1.kind x1.val x1.kids (by omega) (by omega) (by rw [← hx1.out]; exact hk1.out) (kk1.out.new y0 M1.out) (show hi ≤ w1.heap.size from y1) (htb.out.new (K0.out.trans M1.out))).mono ?_
      rintro e w2 ⟨rfl, hn2⟩
      rw [← hx1.out, hT1.out]
      have M2 := Lib.hid (M1.out.trans hn2)
      have y2 : hi ≤ w2.heap.size := Nat.le_trans y1 hn2.size
      have c2E2 := FmtX.New.at hn2 c1E2
      have c2k0a := FmtX.New.at hn2 c1k0a
      have c2k0b := FmtX.New.at hn2 c1k0b
      have c2k0c := FmtX.New.at hn2 c1k0c
      have c2k1a := FmtX.New.at hn2 c1k1a
      have c2k1b := FmtX.New.at hn2 c1k1b
      have c2k1c := FmtX.New.at hn2 c1k1c
      have c2k2a := FmtX.New.at hn2 c1k2a
      have c2k2b := FmtX.New.at hn2 c1k2b
      have c2k2c := FmtX.New.at hn2 c1k2c
      refine hK.out _ _ ?_ (fun hHeld2 => ?_)
      · exact ⟨c2E2, c2k0a, c2k0b, c2k0c, c2k1a, c2k1b, c2k1c, c2k2a, c2k2b, c2k2c⟩
      clear hK K hHeld
      have hHeld := hHeld2
      clear hHeld2
      try simp only [AP]
      refine HT 12 rfl ?_
      try simp only [AP]
      refine HT 13 rfl ?_
      try simp only [AP]
      refine HR 18 rfl fun K hK => ?_
      go_simp
      refine (ihh.out w2 (d - 1) (.slice a2 x2.kids.length e2) x2.kind x2.val x2.kids (by omega) (by omega) (by rw [← hx2.out]; exact hk2.out) (kk2.out.new y0 M2.out) (show hi ≤ w2.heap.size from y2) (htb.out.new (K0.out.trans M2.out))).mono ?_
      rintro e w3 ⟨rfl, hn3⟩
      rw [← hx2.out, hT2.out]
      have M3 := Lib.hid (M2.out.trans hn3)
      have y3 : hi ≤ w3.heap.size := Nat.le_trans y2 hn3.size
      have c3E2 := FmtX.New.at hn3 c2E2
      have c3k0a := FmtX.New.at hn3 c2k0a
      have c3k0b := FmtX.New.at hn3 c2k0b
      have c3k0c := FmtX.New.at hn3 c2k0c
      have c3k1a := FmtX.New.at hn3 c2k1a
      have c3k1b := FmtX.New.at hn3 c2k1b
      have c3k1c := FmtX.New.at hn3 c2k1c
      have c3k2a := FmtX.New.at hn3 c2k2a
      have c3k2b := FmtX.New.at hn3 c2k2b
      have c3k2c := FmtX.New.at hn3 c2k2c
      refine hK.out _ _ ?_ (fun hHeld2 => ?_)
      · exact ⟨c3E2, c3k0a, c3k0b, c3k0c, c3k1a, c3k1b, c3k1c, c3k2a, c3k2b, c3k2c⟩
      clear hK K hHeld
      have hHeld := hHeld2
      clear hHeld2
      try simp only [AP]
      refine HT 19 rfl ?_
      try simp only [AP]
      refine HT 20 rfl ?_
      try simp only [AP]
      refine HT 21 rfl ?_
      try simp only [AP]
      refine wpAnyH_done (by kernel_rfl) ?_ _
      have N9 := Lib.hid (K0.out.trans M3.out)
      clear c0E2 c0k0a c0k0b c0k0c c0k1a c0k1b c0k1c c0k2a c0k2b c0k2c c1E2 c1k0a c1k0b c1k0c c1k1a c1k1b c1k1c c1k2a c1k2b c1k2c c2E2 c2k0a c2k0b c2k0c c2k1a c2k1b c2k1c c2k2a c2k2b c2k2c c3E2 c3k0a c3k0b c3k0c c3k1a c3k1b c3k1c c3k2a c3k2b c3k2c hn1 hn2 hn3
      go_wp2
      go_ret
      exact ⟨by rw [← hR.out]; rfl, N9.out⟩
set_option maxHeartbeats 4000000 in
set_option maxRecDepth 100000 in
theorem implFE {w : World} {lo hi lo' hi' : Nat} {ta tb tc : Value} {xa xb : List Int} {k v : Int} {s : Value} {l : List Ex} (sa : IntsR w lo hi ta xa) (sb : IntsR w lo hi tb xb) (hs : KidsR w lo' hi' s l) (h1 : hi ≤ w.heap.size) (h2 : hi' ≤ w.heap.size) (hm : Ex.sizes l + 1 ≤ 2097152) (ht : DecT.Tab w) :
    Calls Tryd.prog 16 #[.agg #[ta, tb, tc], .agg #[.int .i64 k, .int .i64 v, s]] w fun e w' => e = .returned (.string (textX xa xb (.node k v l))) ∧ New w w' := by
  obtain ⟨a, c, rfl, m1⟩ := sa.len
  obtain ⟨a1, c1, rfl, m2⟩ := sb.len
  obtain ⟨a2, c2, rfl, m3⟩ := hs.len
  have N0 : New w ((w.alloc (.cells #[.slice a xa.length c, .slice a1 xb.length c1, tc] 41)).alloc (.cells #[.int .i64 k, .int .i64 v, .slice a2 l.length c2] 45)) := ((Kp.refl _ _).alloc _).alloc _
  have bA0 : ((w.alloc (.cells #[.slice a xa.length c, .slice a1 xb.length c1, tc] 41)).alloc (.cells #[.int .i64 k, .int .i64 v, .slice a2 l.length c2] 45)).heap[w.heap.size]? = some (.cells #[.slice a xa.length c, .slice a1 xb.length c1, tc] 41) := heap_old (alloc_heap _ _)
  have bB0 : ((w.alloc (.cells #[.slice a xa.length c, .slice a1 xb.length c1, tc] 41)).alloc (.cells #[.int .i64 k, .int .i64 v, .slice a2 l.length c2] 45)).heap[w.heap.size + 1]? = some (.cells #[.int .i64 k, .int .i64 v, .slice a2 l.length c2] 45) := heap_at (by simp)
  go_enter Tryd.func16, Tryd.ntmps16
  go_wp2_with fail
  generalize ((w.alloc (.cells #[.slice a xa.length c, .slice a1 xb.length c1, tc] 41)).alloc (.cells #[.int .i64 k, .int .i64 v, .slice a2 l.length c2] 45)) = w0 at *
  have z0 := N0.size
  refine (ExprV.implV (sa.new h1 N0) (sb.new h1 N0) (hs.new h2 N0) (by omega) (by omega)).mono ?_
  rintro e w1 ⟨rfl, hn1⟩
  have N1 := Lib.hid (N0.trans hn1)
  have bA1 := heap_new hn1 bA0
  have bB1 := heap_new hn1 bB0
  obtain ⟨bA1_0, bA1_1, bA1_2⟩ := cells3 bA1
  obtain ⟨bB1_0, bB1_1, bB1_2⟩ := cells3 bB1
  clear bA0 bB0 hn1 N0 bA1 bB1
  have z1 := N1.out.size
  cases hd : exprB xa xb (.node k v l)
  · have D := Lib.hid (show textX xa xb (.node k v l) = ⟨#[]⟩ by rw [textX, hd]; rfl)
    clear hd
    go_wp2
    go_ret
    exact ⟨by rw [D.out]; rfl, N1.out⟩
  · have D := Lib.hid (show textX xa xb (.node k v l) = ⟨(tx (.node k v l)).toArray⟩ by rw [textX, hd]; rfl)
    have hq : declB xa xb = true ∧ right xa.length xb.length (.node k v l) = true := by rw [exprB, Bool.and_eq_true] at hd; exact hd
    have hl : xa.length ≤ 12 ∧ xb.length ≤ 2 := by
      have := hq.1
      simp only [declB, Bool.and_eq_true, decide_eq_true_eq] at this
      exact ⟨this.1.1.1.2, this.1.1.2⟩
    have hsh := Lib.hid (right_shp hq.2).1
    have hs1 := Lib.hid (hs.new h2 N1.out)
    clear hd hq
    go_wp2_with fail
    refine (implX lo' hi' xa.length xb.length hl.1 hl.2 (Ex.sizes l + 1) w1 5 _ k v l (by omega) hm hsh.out hs1.out (by omega) (ht.new N1.out)).mono ?_
    rintro e w2 ⟨rfl, hn2⟩
    rw [← D.out]
    have N2 := Lib.hid (N1.out.trans hn2)
    clear hn2
    go_wp2
    go_ret
    exact ⟨rfl, N2.out⟩
end Go.Proofs.YtckikiaockkmbaaDoor.FmtE
