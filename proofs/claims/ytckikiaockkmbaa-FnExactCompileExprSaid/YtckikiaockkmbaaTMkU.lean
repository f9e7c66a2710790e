/- Marks over trees: numbers are written into what may be written; the skeleton stands. Conditions: bounds on the numbers. -/
import Derived.Test.YtckikiaockkmbaaTTreeU
import Derived.Test.YtckikiaockkmbaaTP2
import Derived.Test.YtckikiaockkmbaaTToE
import Derived.Test.YtckikiaockkmbaaTOwnT
import Derived.Deep.DeepCutAuto
namespace Go.Proofs.Ytckikiaockkmbaa.MkU
open Go.RowKit Kit
set_option linter.unusedVariables false
/-- only numbers between lo and hi are turned -/
def Mk (lo hi : Nat) (w w' : World) : Prop := Kp (fun c => lo ≤ c ∧ c < hi) w w' ∧ Same3 w w' lo hi
theorem Mk.refl (lo hi : Nat) (w : World) : Mk lo hi w w := ⟨Kp.refl _ _, .refl _ _ _⟩
theorem Mk.trans {lo hi : Nat} {w w' w'' : World} (h : Mk lo hi w w') (k : Mk lo hi w' w'') : Mk lo hi w w'' := ⟨h.1.trans (k.1.mono fun _ _ e => e), h.2.trans k.2⟩
theorem Mk.setE {lo hi : Nat} {w : World} {b n : Nat} (hr : Row w b n 58) (h1 : lo ≤ b) (h2 : b < hi) (j : Nat) (hj : j % 3 ≠ 2) (v : Value) : Mk lo hi w (w.setCell ⟨b, j, none⟩ v) := ⟨(Kp.refl _ _).setCell (.inl ⟨h1, h2⟩) _, .setE hr j hj v⟩
theorem Mk.setS {lo hi : Nat} {w : World} {b n : Nat} (hr : Row w b n 74) (h1 : lo ≤ b) (h2 : b < hi) (j : Nat) (hj : j % 11 ≠ 4 ∧ j % 11 ≠ 7 ∧ j % 11 ≠ 9 ∧ j % 11 ≠ 10) (v : Value) : Mk lo hi w (w.setCell ⟨b, j, none⟩ v) := ⟨(Kp.refl _ _).setCell (.inl ⟨h1, h2⟩) _, .setS hr j hj v⟩
theorem Mk.new {lo hi : Nat} {w w' : World} (h : hi ≤ w.heap.size) (k : New w w') : Mk lo hi w w' := ⟨k.mono fun _ _ f => f.elim, .of fun q _ h2 => k.block q (by omega) (fun f => f)⟩
theorem Ex.sizes_app : ∀ (l m : List Ex), Ex.sizes (l ++ m) = Ex.sizes l + Ex.sizes m
  | [], m => by simp [Ex.sizes]
  | e :: es, m => by simp only [List.cons_append, Ex.sizes, Ex.sizes_app es m]; omega
theorem Ex.sizes_step {l : List Ex} {j : Nat} (h : j < l.length) : Ex.sizes (l.take (j + 1)) = Ex.sizes (l.take j) + (Ex.sizes l[j].kids + 1) := by
  rw [List.take_succ_eq_append_getElem h, Ex.sizes_app]
  simp only [Ex.sizes]
  have := Ex.size_kids l[j]
  omega
theorem Ex.sizes_tk (l : List Ex) (j : Nat) : Ex.sizes (l.take j) ≤ Ex.sizes l := by
  have := Ex.sizes_app (l.take j) (l.drop j)
  rw [List.take_append_drop] at this
  omega
set_option maxHeartbeats 4000000 in
theorem markExprS (lo hi : Nat) : ∀ (N : Nat) (w : World) (s : Value) (ks : List Ex) (k : Int), Ex.sizes ks < N → KidsK w lo hi s ks → 0 ≤ k → k + 2 * Ex.sizes ks ≤ 1099511627776 → Ex.sizes ks ≤ 1048576 →
    Calls Try.prog 84 #[s, .int .i64 k] w fun e w' => e = .returned (.int .i64 (k + 2 * Ex.sizes ks)) ∧ Mk lo hi w w' := by
  intro N
  induction N with
  | zero => intro w s ks k h; exact absurd h (Nat.not_lt_zero _)
  | succ N ih =>
    intro w s ks k hn hs hk0 hk1 hm
    have hsh := Lib.hid hs
    have ihh := Lib.hid ih
    have hll := Ex.length_sizes ks
    have hlen : ks.length ≤ 1048576 := by omega
    obtain ⟨b, rfl, hlo, hhi, row0, _⟩ := hs.here
    have hr0 := Lib.hid row0
    clear hs ih row0
    go_enter Try.func84, Try.ntmps84
    go_upto_region 2 with fail
    go_loopw [1, 5] (fun u i wr => ∃ j : Nat, j ≤ ks.length ∧ i = .int .i64 j ∧ u = .int .i64 (k + 2 * (Ex.sizes (ks.take j) : Nat)) ∧ Mk lo hi w wr) (fun _ i _ => ks.length - (intOf i).toNat)
    case atStart => exact ⟨0, Nat.zero_le _, rfl, by simp [Ex.sizes], Mk.refl _ _ _⟩
    case round =>
      obtain ⟨j, hj, rfl, rfl, M⟩ := hrel
      have Mh := Lib.hid M
      clear M
      by_cases hlt : j < ks.length
      · have hst := Lib.hid (Ex.sizes_step hlt)
        have hkz := Ex.kids_get ks j hlt
        have hle := Ex.sizes_tk ks (j + 1)
        have rw := ((Mh.out.2 b hlo hhi).1 _ hr0.out).1
        obtain ⟨b', e, _, _, _, hel⟩ := (hsh.out.same Mh.out.2).here
        cases e
        obtain ⟨u, hu, hku⟩ := hel j hlt
        rw [Ex.sizes_step hlt] at hle
        obtain ⟨q, hq⟩ : ∃ q, k + 2 * ((Ex.sizes (ks.take j) : Nat) : Int) = q := ⟨_, rfl⟩
        rw [hq]
        have hq0 : 0 ≤ q := by omega
        have hq1 : q + 2 * (Ex.sizes ks[j].kids + 1 : Nat) ≤ 1099511627776 := by omega
        have hqh := Lib.hid hq
        clear hq
        obtain ⟨x0, d0⟩ := rw.cell (j * 3) (by omega)
        obtain ⟨x1, d1⟩ := rw.cell (j * 3 + 1) (by omega)
        have hf := rw.free
        have M1 := Mk.setE rw hlo hhi (j * 3) (by omega) (.int .i64 q)
        have rw1 := rw.set (j * 3) (.int .i64 q)
        have M2 := Lib.hid (M1.trans (Mk.setE rw1 hlo hhi (j * 3 + 1) (by omega) (.int .i64 (q + 1))))
        have hku2 := Lib.hid (hku.same M2.out.2)
        obtain ⟨bu, hbu, _⟩ := hku.here
        obtain ⟨x, hx⟩ : ∃ x, ks[j] = x := ⟨_, rfl⟩
        rw [hx] at hst hkz hle hq1 hku2 hbu
        subst hbu
        have lr := rw.lt
        clear hel hku hx M1 rw1 rw hll hle
        go_wp2_with fail
        refine (ihh.out _ _ x.kids (q + 1 + 1) (by omega) hku2.out (by omega) (by omega) (by omega)).mono ?_
        rintro e w1 ⟨rfl, M3⟩
        have M4 := Lib.hid (Mh.out.trans (M2.out.trans M3))
        clear M3 M2 Mh d0 d1 hf hu
        have hnew := Lib.hid (show q + 1 + 1 + 2 * ((Ex.sizes x.kids : Nat) : Int) = k + 2 * ((Ex.sizes (ks.take (j + 1)) : Nat) : Int) by rw [hst.out, ← hqh.out]; omega)
        rw [hnew.out]
        go_wp2
        go_roundw
        case rel => exact ⟨j + 1, by omega, by go_num, rfl, M4.out⟩
        case measure => simp [intOf]; omega
      · have hall : ks.take j = ks := List.take_of_length_le (by omega)
        rw [hall]
        have hge : ks.length ≤ j := by omega
        clear hall hlt
        go_wp2
        go_ret
        exact ⟨rfl, Mh.out⟩
theorem markExpr {lo hi : Nat} {w : World} {s : Value} {ks : List Ex} {u v k : Int} (hs : KidsK w lo hi s ks) (hh : hi ≤ w.heap.size) (hk0 : 0 ≤ k) (hk1 : k + 2 * Ex.sizes ks ≤ 1099511627776) (hm : Ex.sizes ks ≤ 1048576) :
    Calls Try.prog 35 #[.agg #[.int .i64 u, .int .i64 v, s], .int .i64 k] w fun e w' => ∃ k', e = .returned (.int .i64 k') ∧ k ≤ k' ∧ k' ≤ k + 2 * Ex.sizes ks ∧ Mk lo hi w w' := by
  obtain ⟨b, rfl, _⟩ := hs.here
  have hsh := Lib.hid hs
  have N0 : New w (w.alloc (.cells #[.int .i64 u, .int .i64 v, .slice (some ⟨b, 0, none⟩) ks.length ks.length] 58)) := (Kp.refl _ _).alloc _
  have M0 := Lib.hid (Mk.new (lo := lo) hh N0)
  have bX := alloc_heap w (.cells #[.int .i64 u, .int .i64 v, .slice (some ⟨b, 0, none⟩) ks.length ks.length] 58)
  clear hs
  go_enter Try.func35, Try.ntmps35
  go_upto_region 1 with fail
  generalize w.alloc (.cells #[.int .i64 u, .int .i64 v, .slice (some ⟨b, 0, none⟩) ks.length ks.length] 58) = w0 at *
  have c2 := cell_of_heap bX 2
  go_wp2_with fail
  refine (markExprS lo hi (Ex.sizes ks + 1) w0 _ ks k (Nat.lt_succ_self _) (hsh.out.same M0.out.2) hk0 hk1 hm).mono ?_
  rintro e w1 ⟨rfl, M⟩
  have Mh := Lib.hid M
  clear M c2
  go_wp2
  go_ret
  exact ⟨_, rfl, by omega, by omega, M0.out.trans Mh.out⟩
set_option maxHeartbeats 16000000 in
set_option maxRecDepth 100000 in
theorem markStmtS (lo hi : Nat) : ∀ (N : Nat) (w : World) (s : Value) (l : List St) (k : Int), St.sizes l < N → StsK w lo hi s l → 0 ≤ k → k + 7 * St.sizes l ≤ 1099511627776 → St.sizes l ≤ 1048576 →
    Calls Try.prog 83 #[s, .int .i64 k] w fun e w' => ∃ k', e = .returned (.int .i64 k') ∧ k ≤ k' ∧ k' ≤ k + 7 * St.sizes l ∧ Mk lo hi w w' := by
  intro N
  induction N with
  | zero => intro w s l k h; exact absurd h (Nat.not_lt_zero _)
  | succ N ih =>
    intro w s l k hn hs hk0 hk1 hm
    have hsh := Lib.hid hs
    have ihh := Lib.hid ih
    have hll := St.length_sizes l
    have hlen : l.length ≤ 1048576 := by omega
    obtain ⟨b, rfl, hlo, hhi, row0, _⟩ := hs.here
    have hr0 := Lib.hid row0
    clear hs ih row0
    go_enter Try.func83, Try.ntmps83
    go_upto_region 2 with fail
    go_loopw [1, 5] (fun u i wr => ∃ (j : Nat) (q : Int), j ≤ l.length ∧ i = .int .i64 j ∧ u = .int .i64 q ∧ k ≤ q ∧ q ≤ k + 7 * (St.sizes (l.take j) : Nat) ∧ Mk lo hi w wr) (fun _ i _ => l.length - (intOf i).toNat)
    case atStart => exact ⟨0, k, Nat.zero_le _, rfl, rfl, Int.le_refl _, by simp [St.sizes], Mk.refl _ _ _⟩
    case round =>
      obtain ⟨j, q, hj, rfl, rfl, hq0, hq1, M⟩ := hrel
      have Mh := Lib.hid M
      clear M
      by_cases hlt : j < l.length
      · have hst := St.sizes_take_succ l j hlt
        have hle : St.sizes (l.take (j + 1)) ≤ St.sizes l := by rw [St.sizes_take_drop l (j + 1)]; omega
        obtain ⟨b', e, _, _, _, hel⟩ := (hsh.out.same Mh.out.2).here
        cases e
        obtain ⟨u4, u7, u9, u10, h4, h7, h9, h10, k4, k7, k9, k10⟩ := hel j hlt
        have rr := ((Mh.out.2 b hlo hhi).2 _ hr0.out).1
        obtain ⟨x, hx⟩ : ∃ x, l[j] = x := ⟨_, rfl⟩
        rw [hx] at hst k4 k7 k9 k10
        have g4 := Lib.hid k4
        have g7 := Lib.hid k7
        have g9 := Lib.hid k9
        have g10 := Lib.hid k10
        obtain ⟨b4, e4, _⟩ := k4.here
        obtain ⟨b7, e7, _⟩ := k7.here
        obtain ⟨b9, e9, _⟩ := k9.here
        obtain ⟨b10, e10, _⟩ := k10.here
        subst e4 e7 e9 e10
        have hb1 : q + 7 * ((Ex.sizes x.index.kids + Ex.sizes x.value.kids + St.sizes x.body + St.sizes x.els + 1 : Nat) : Int) ≤ 1099511627776 := by omega
        have hb2 : Ex.sizes x.index.kids + Ex.sizes x.value.kids + St.sizes x.body + St.sizes x.els + 1 ≤ 1048576 := by omega
        have hb3 : Ex.sizes x.index.kids + Ex.sizes x.value.kids + St.sizes x.body + St.sizes x.els + 1 ≤ N := by omega
        have hq00 : 0 ≤ q := by omega
        have hfin := Lib.hid (show ∀ q' : Int, q' ≤ q + 7 * ((Ex.sizes x.index.kids + Ex.sizes x.value.kids + St.sizes x.body + St.sizes x.els + 1 : Nat) : Int) → q' ≤ k + 7 * ((St.sizes (l.take (j + 1)) : Nat) : Int) from fun q' h => by rw [hst]; omega)
        have hst2 := Lib.hid hst
        clear hel k4 k7 k9 k10 hx hst hle hll
        have hcw := ((Mh.out.2 b hlo hhi).2 _ hr0.out).2 j
        have v4 := h4
        have v7 := h7
        have v9 := h9
        have v10 := h10
        have hcwh := Lib.hid hcw
        have i7 := Lib.hid h7
        have i9 := Lib.hid h9
        have i10 := Lib.hid h10
        clear hcw h4 h7 h9 h10
        have rr1 := ((Mh.out.2 b hlo hhi).2 _ hr0.out).1
        obtain ⟨x0, d0⟩ := rr1.cell (j * 11) (by omega)
        obtain ⟨x1, d1⟩ := rr1.cell (j * 11 + 1) (by omega)
        obtain ⟨x2, d2⟩ := rr1.cell (j * 11 + 2) (by omega)
        obtain ⟨x3, d3⟩ := rr1.cell (j * 11 + 3) (by omega)
        have ff := rr1.free
        have lr := rr1.lt
        have m1_0 := Mk.setS (lo := lo) (hi := hi) rr1 hlo hhi (j * 11) (by omega) (.int .i64 q)
        have r1_0 := rr1.set (j * 11) (.int .i64 q)
        have m1_1 := Mk.setS (lo := lo) (hi := hi) r1_0 hlo hhi (j * 11 + 1) (by omega) (.int .i64 (q + 1))
        have r1_1 := r1_0.set (j * 11 + 1) (.int .i64 (q + 1))
        have m1_2 := Mk.setS (lo := lo) (hi := hi) r1_1 hlo hhi (j * 11 + 2) (by omega) (.int .i64 ((q + 1) + 1))
        have r1_2 := r1_1.set (j * 11 + 2) (.int .i64 ((q + 1) + 1))
        have m1_3 := Mk.setS (lo := lo) (hi := hi) r1_2 hlo hhi (j * 11 + 3) (by omega) (.int .i64 (((q + 1) + 1) + 1))
        have r1_3 := r1_2.set (j * 11 + 3) (.int .i64 (((q + 1) + 1) + 1))
        have MM1 := Lib.hid (Mh.out.trans (((m1_0.trans m1_1).trans m1_2).trans m1_3))
        have mm1 := Lib.hid (((m1_0.trans m1_1).trans m1_2).trans m1_3)
        clear m1_0 m1_1 m1_2 m1_3 r1_0 r1_1 r1_2 r1_3 rr1
        have s4 := Lib.hid (g4.out.same mm1.out.2)
        have s7 := Lib.hid (g7.out.same mm1.out.2)
        have s9 := Lib.hid (g9.out.same mm1.out.2)
        have s10 := Lib.hid (g10.out.same mm1.out.2)
        go_wp2_with fail
        refine (markExprS lo hi (Ex.sizes x.index.kids + 1) _ _ x.index.kids ((((q + 1) + 1) + 1) + 1) (Nat.lt_succ_self _) s4.out (by omega) (by omega) (by omega)).mono ?_
        rintro e w4 ⟨rfl, Mc⟩
        obtain ⟨y4, hy4⟩ : ∃ y, ((((q + 1) + 1) + 1) + 1) + 2 * ((Ex.sizes x.index.kids : Nat) : Int) = y := ⟨_, rfl⟩
        rw [hy4]
        have ya4 : ((((q + 1) + 1) + 1) + 1) ≤ y4 := by omega
        have yb4 : y4 ≤ ((((q + 1) + 1) + 1) + 1) + 2 * ((Ex.sizes x.index.kids : Nat) : Int) := by omega
        clear hy4
        have M4 := Lib.hid (MM1.out.trans Mc)
        have t7_4 := Lib.hid (s7.out.same Mc.2)
        have t9_4 := Lib.hid (s9.out.same Mc.2)
        have t10_4 := Lib.hid (s10.out.same Mc.2)
        have hc4 := ((M4.out.2 b hlo hhi).2 _ hr0.out).2 j
        clear Mc d0 d1 d2 d3 ff lr s4 s7 s9 s10 mm1
        clear g4 g7 g9 g10
        have hz7_4 := (hc4.2.1).trans (hcwh.out.2.1.symm.trans i7.out)
        have hz9_4 := (hc4.2.2.1).trans (hcwh.out.2.2.1.symm.trans i9.out)
        have hz10_4 := (hc4.2.2.2).trans (hcwh.out.2.2.2.symm.trans i10.out)
        clear hc4
        clear v4 v7 v9 v10
        have rr2 := ((M4.out.2 b hlo hhi).2 _ hr0.out).1
        obtain ⟨x5, d5⟩ := rr2.cell (j * 11 + 5) (by omega)
        obtain ⟨x6, d6⟩ := rr2.cell (j * 11 + 6) (by omega)
        have ff := rr2.free
        have lr := rr2.lt
        have m2_0 := Mk.setS (lo := lo) (hi := hi) rr2 hlo hhi (j * 11 + 5) (by omega) (.int .i64 y4)
        have r2_0 := rr2.set (j * 11 + 5) (.int .i64 y4)
        have m2_1 := Mk.setS (lo := lo) (hi := hi) r2_0 hlo hhi (j * 11 + 6) (by omega) (.int .i64 (y4 + 1))
        have r2_1 := r2_0.set (j * 11 + 6) (.int .i64 (y4 + 1))
        have MM2 := Lib.hid (M4.out.trans (m2_0.trans m2_1))
        have mm2 := Lib.hid (m2_0.trans m2_1)
        clear m2_0 m2_1 r2_0 r2_1 rr2
        have s7 := Lib.hid (t7_4.out.same mm2.out.2)
        have s9 := Lib.hid (t9_4.out.same mm2.out.2)
        have s10 := Lib.hid (t10_4.out.same mm2.out.2)
        go_wp2_with fail
        refine (markExprS lo hi (Ex.sizes x.value.kids + 1) _ _ x.value.kids ((y4 + 1) + 1) (Nat.lt_succ_self _) s7.out (by omega) (by omega) (by omega)).mono ?_
        rintro e w7 ⟨rfl, Mc⟩
        obtain ⟨y7, hy7⟩ : ∃ y, ((y4 + 1) + 1) + 2 * ((Ex.sizes x.value.kids : Nat) : Int) = y := ⟨_, rfl⟩
        rw [hy7]
        have ya7 : ((y4 + 1) + 1) ≤ y7 := by omega
        have yb7 : y7 ≤ ((y4 + 1) + 1) + 2 * ((Ex.sizes x.value.kids : Nat) : Int) := by omega
        clear hy7
        have M7 := Lib.hid (MM2.out.trans Mc)
        have t9_7 := Lib.hid (s9.out.same Mc.2)
        have t10_7 := Lib.hid (s10.out.same Mc.2)
        have hc7 := ((M7.out.2 b hlo hhi).2 _ hr0.out).2 j
        clear Mc d5 d6 ff lr s7 s9 s10 mm2
        clear t7_4 t9_4 t10_4
        have hz9_7 := (hc7.2.2.1).trans (hcwh.out.2.2.1.symm.trans i9.out)
        have hz10_7 := (hc7.2.2.2).trans (hcwh.out.2.2.2.symm.trans i10.out)
        clear hc7
        clear hz7_4 hz9_4 hz10_4
        have rr3 := ((M7.out.2 b hlo hhi).2 _ hr0.out).1
        obtain ⟨x8, d8⟩ := rr3.cell (j * 11 + 8) (by omega)
        have ff := rr3.free
        have lr := rr3.lt
        have m3_0 := Mk.setS (lo := lo) (hi := hi) rr3 hlo hhi (j * 11 + 8) (by omega) (.int .i64 y7)
        have r3_0 := rr3.set (j * 11 + 8) (.int .i64 y7)
        have MM3 := Lib.hid (M7.out.trans m3_0)
        have mm3 := Lib.hid m3_0
        clear m3_0 r3_0 rr3
        have s9 := Lib.hid (t9_7.out.same mm3.out.2)
        have s10 := Lib.hid (t10_7.out.same mm3.out.2)
        go_wp2_with fail
        refine (ihh.out _ _ x.body (y7 + 1) (by omega) s9.out (by omega) (by omega) (by omega)).mono ?_
        rintro e w9 ⟨y9, rfl, ya9, yb9, Mc⟩
        have M9 := Lib.hid (MM3.out.trans Mc)
        have t10_9 := Lib.hid (s10.out.same Mc.2)
        have hc9 := ((M9.out.2 b hlo hhi).2 _ hr0.out).2 j
        clear Mc d8 ff lr s9 s10 mm3
        clear t9_7 t10_7
        have hz10_9 := (hc9.2.2.2).trans (hcwh.out.2.2.2.symm.trans i10.out)
        clear hc9
        clear hz9_7 hz10_7
        have s10 := t10_9
        go_wp2_with fail
        refine (ihh.out _ _ x.els y9 (by omega) s10.out (by omega) (by omega) (by omega)).mono ?_
        rintro e w10 ⟨y10, rfl, ya10, yb10, Mc⟩
        have M10 := Lib.hid (M9.out.trans Mc)
        have hc10 := ((M10.out.2 b hlo hhi).2 _ hr0.out).2 j
        clear Mc s10
        clear hc10
        clear hz10_9
        go_wp2
        go_roundw
        case rel => exact ⟨j + 1, y10, by omega, by go_num, rfl, by omega, hfin.out _ (by omega), M10.out⟩
        case measure => simp [intOf]; omega
      · have hall : l.take j = l := List.take_of_length_le (by omega)
        rw [hall] at hq1
        have hge : l.length ≤ j := by omega
        clear hall hlt
        go_wp2
        go_ret
        exact ⟨_, rfl, hq0, hq1, Mh.out⟩
set_option maxHeartbeats 4000000 in
theorem markProgram {w : World} {base hi : Nat} {va vb vc : Value} {xa xb : List Int} {l : List St} {k : Int} (oa : OwnF 1 encI w base 3 va xa) (ob : OwnF 1 encI w base 3 vb xb) (hs : StsK w base hi vc l) (hab : ∀ b, va.ownBlock = some b → vb.ownBlock ≠ some b) (ha : ∀ b, va.ownBlock = some b → b < hi) (hb : ∀ b, vb.ownBlock = some b → b < hi) (hh : hi ≤ w.heap.size) (hk0 : 0 ≤ k) (hk1 : k ≤ 4194304) (hma : xa.length ≤ 1048576) (hmb : xb.length ≤ 1048576) (hm : St.sizes l ≤ 1048576) :
    Calls Try.prog 34 #[.agg #[va, vb, vc], .int .i64 k] w fun e w' => ∃ k', e = .returned (.int .i64 k') ∧ k ≤ k' ∧ k' ≤ k + 16777216 ∧ Kp (fun c => base ≤ c ∧ c < hi) w w' := by
  obtain ⟨b, rfl, hlo, hhi, _⟩ := hs.here
  obtain ⟨a1, d1, rfl, _⟩ := oa.reads.len
  obtain ⟨a2, d2, rfl, _⟩ := ob.reads.len
  have hsh := Lib.hid hs
  have kA : New w (w.alloc (.cells #[.slice a1 xa.length d1, .slice a2 xb.length d2, .slice (some ⟨b, 0, none⟩) l.length l.length] 37)) := (Kp.refl _ _).alloc _
  have oa1 := Lib.hid (oa.new kA)
  have ob1 := Lib.hid (ob.new kA)
  have M0 := Lib.hid (Mk.new (lo := base) hh kA)
  have bX := alloc_heap w (.cells #[.slice a1 xa.length d1, .slice a2 xb.length d2, .slice (some ⟨b, 0, none⟩) l.length l.length] 37)
  have hs1 := Lib.hid (hsh.out.same M0.out.2)
  have zz := kA.size
  have habh := Lib.hid hab
  have hah := Lib.hid ha
  have hbh := Lib.hid hb
  have hla := Lib.hid fun b hb => (oa.lt b hb).1
  have hlb := Lib.hid fun b hb => (ob.lt b hb).1
  clear hs oa ob hab ha hb
  go_enter Try.func34, Try.ntmps34
  go_upto_region 1 with fail
  generalize w.alloc (.cells #[.slice a1 xa.length d1, .slice a2 xb.length d2, .slice (some ⟨b, 0, none⟩) l.length l.length] 37) = w0 at *
  have c0 := cell_of_heap bX 0
  go_wp2_with fail
  refine (LawF.markIntS w0 base _ xa k oa1.out hk0 (by omega) (by omega)).mono ?_
  rintro e w1 ⟨rfl, K1, -⟩
  have bX1 := (K1.block _ (heap_lt bX) (fun e => by have := hah.out _ e; omega)).trans bX
  have ob2 := Lib.hid (ob1.out.kp K1 fun c e1 e2 => habh.out c e2 e1)
  have S1 : Same3 w0 w1 base hi := fun c h1 h2 => by
    by_cases e : (Value.slice a1 xa.length d1).ownBlock = some c
    · obtain ⟨cs, hc, _⟩ := OwnF.heapO oa1.out e
      have hr : Row w0 c cs.size 3 := ⟨cs, hc, rfl⟩
      exact ⟨fun n r => absurd (hr.ty r).1 (by decide), fun n r => absurd (hr.ty r).1 (by decide)⟩
    · have hb := K1.block c (by omega) e
      have hcc : ∀ q, w1.cell? ⟨c, q, none⟩ = w0.cell? ⟨c, q, none⟩ := fun q => World.cell?_of_block (w := w0) hb
      exact ⟨fun n r => ⟨r.keep hb, fun i => hcc _⟩, fun n r => ⟨r.keep hb, fun i => ⟨hcc _, hcc _, hcc _, hcc _⟩⟩⟩
  have Ma := Lib.hid (show Mk base hi w w1 from M0.out.trans ⟨K1.mono fun c _ e => ⟨hla.out c e, hah.out c e⟩, S1⟩)
  have z1 := K1.size
  clear K1 S1 c0 bX
  have c1 := cell_of_heap bX1 1
  go_wp2_with fail
  refine (LawF.markIntS w1 base _ xb (k + xa.length) ob2.out (by omega) (by omega) (by omega)).mono ?_
  rintro e w2 ⟨rfl, K2, -⟩
  have bX2 := (K2.block _ (heap_lt bX1) (fun e => by have := hbh.out _ e; omega)).trans bX1
  have S2 : Same3 w1 w2 base hi := fun c h1 h2 => by
    by_cases e : (Value.slice a2 xb.length d2).ownBlock = some c
    · obtain ⟨cs, hc, _⟩ := OwnF.heapO ob2.out e
      have hr : Row w1 c cs.size 3 := ⟨cs, hc, rfl⟩
      exact ⟨fun n r => absurd (hr.ty r).1 (by decide), fun n r => absurd (hr.ty r).1 (by decide)⟩
    · have hb := K2.block c (by omega) e
      have hcc : ∀ q, w2.cell? ⟨c, q, none⟩ = w1.cell? ⟨c, q, none⟩ := fun q => World.cell?_of_block (w := w1) hb
      exact ⟨fun n r => ⟨r.keep hb, fun i => hcc _⟩, fun n r => ⟨r.keep hb, fun i => ⟨hcc _, hcc _, hcc _, hcc _⟩⟩⟩
  have Mb := Lib.hid (Ma.out.trans ⟨K2.mono fun c _ e => ⟨hlb.out c e, hbh.out c e⟩, S2⟩)
  have z2 := K2.size
  clear K2 S2 c1 bX1 Ma
  have c2 := cell_of_heap bX2 2
  go_wp2_with fail
  refine (markStmtS base hi (St.sizes l + 1) w2 _ l (k + xa.length + xb.length) (Nat.lt_succ_self _) (hsh.out.same Mb.out.2) (by omega) (by omega) hm).mono ?_
  rintro e w3 ⟨k', rfl, h1, h2, M3⟩
  have M4 := Lib.hid (Mb.out.trans M3).1
  clear M3 c2
  go_wp2
  go_ret
  exact ⟨k', rfl, by omega, by omega, M4.out⟩
end Go.Proofs.Ytckikiaockkmbaa.MkU
