/- A block's run by spec. Conditions: the block is valid, the memory fits; bounds on lengths. -/
import Derived.Test.YtckikiaockkmbaaDoorXRuP
import Derived.Deep.DeepCutAuto
import Derived.Test.YtckikiaockkmbaaDoorXP1
namespace Go.Proofs.YtckikiaockkmbaaDoor.RuS
open Go.RowKit Kit Val Step EvP MarkC RuP
set_option linter.unusedVariables false
theorem results_tmp1 {P : Program} {fn : Func} {p : Tmp} (h : fn.results = #[.tmp p]) (tmps : Array Value) (w : World) : (results fn tmps).run P w = .ok (tmps.getD p undef) w := by
  simp [results, h]
set_option maxHeartbeats 16000000 in
set_option maxRecDepth 100000 in
theorem l3Run (lo hi lm hm base nv na : Nat) (hnv : nv ≤ 1000) (hna : na ≤ 1000) (hlm : hi ≤ lm) (hmm : lm ≤ hm) (hb : hm ≤ base) (av ab : Option Addr) (dv db : Nat) :
    ∀ (n : Nat) (w : World) (d : Nat) (ev s : Value) (ks : List St) (B : Nat), St.sizes ks < n → blB nv na ks d = true → base ≤ w.heap.size → RunQ w base lm hm nv na (.slice av nv dv) (.slice ab na db) ev (B) ev w → StsR w lo hi s ks → B + bnd d (stsN ks) ≤ 2000000 →
      Calls Tryd.prog 72 #[.agg #[.slice av nv dv, .slice ab na db], s, ev] w fun e w' => ∃ ev', e = .returned ev' ∧ RunQ w base lm hm nv na (.slice av nv dv) (.slice ab na db) ev (B + bnd d (stsN ks)) ev' w' := by
  intro n
  induction n with
  | zero => intro w d ev s ks B h; exact absurd h (Nat.not_lt_zero _)
  | succ n ih =>
    intro w d ev s ks B hn hbl hbw hR hs hB
    obtain ⟨a1, d1, rfl, hkl⟩ := hs.len
    have hlow := Lib.hid hR.low
    have hbl2 := Lib.hid hbl
    have hsr := Lib.hid hs
    have ihh := Lib.hid ih
    have k0 : New w (w.alloc (.cells #[.slice av nv dv, .slice ab na db] 101)) := (Kp.refl _ _).alloc _
    have bM_0 := alloc_heap w (.cells #[.slice av nv dv, .slice ab na db] 101)
    have y0 : w.heap.size < (w.alloc (.cells #[.slice av nv dv, .slice ab na db] 101)).heap.size := by simp
    have hR0 := Lib.hid (hR.new (by omega) k0)
    clear hbl hs ih hR k0
    go_enter Tryd.func72, Tryd.ntmps72
    go_upto_region 1 with fail
    obtain ⟨bM, hbM⟩ : ∃ q, w.heap.size = q := ⟨_, rfl⟩
    rw [hbM] at bM_0 y0 ⊢
    have hbM1 : bM ≤ w.heap.size := Nat.le_of_eq hbM.symm
    have hbM2 : w.heap.size ≤ bM := Nat.le_of_eq hbM
    clear hbM
    generalize w.alloc (.cells #[.slice av nv dv, .slice ab na db] 101) = w0 at *
    go_wp2_with fail
    go_loopw [2, 7] (fun p i wr => ∃ (j : Nat) (ev1 : Value), j ≤ ks.length ∧ i = .int .i64 j ∧ ev1 = p ∧ wr.heap[bM]? = some (.cells #[.slice av nv dv, .slice ab na db] 101 (0, 0)) ∧ RunQ w base lm hm nv na (.slice av nv dv) (.slice ab na db) ev (B + bnd d (stsN (ks.take j))) ev1 wr) (fun _ i _ => ks.length - (intOf i).toNat)
    case atStart => exact ⟨0, _, Nat.zero_le _, rfl, rfl, bM_0, by simpa [bnd, stsN] using hR0.out⟩
    case round =>
      obtain ⟨j, ev1, hj, rfl, rfl, bM0, hR1⟩ := hrel
      generalize wr = wo at *
      have hRh := Lib.hid hR1
      have zw := hR1.size
      clear hR0 hR1 bM_0 y0
      by_cases hlt : j < ks.length
      · obtain ⟨b, o, vi, vv, vb, ve, e, A⟩ := (hRh.out.stmts hlow.out hlm (by omega) (by omega) hsr.out).elem j hlt
        cases e
        obtain ⟨a4, c4, rfl, _⟩ := A.ri.len
        obtain ⟨a7, c7, rfl, _⟩ := A.rv.len
        obtain ⟨a9, c9, rfl, _⟩ := A.rb.len
        obtain ⟨a10, c10, rfl, _⟩ := A.re.len
        have hstB := blB_get _ _ _ hbl2.out j hlt
        have hkind := Lib.hid (kinds hstB)
        have hsub := stB_sub hstB
        have hB9 := Lib.hid hsub.2.1
        have hB10 := Lib.hid hsub.2.2.1
        have hst := bnd_st d ks[j] hsub.1
        have hle := bnd_mono d (stsN_take_le ks (j + 1))
        rw [stsN_take hlt, bnd_add] at hle
        have hfin := Lib.hid (show ∀ u wz, RunQ w base lm hm nv na (.slice av nv dv) (.slice ab na db) ev (B + bnd d (stsN (ks.take j)) + bnd d (stN ks[j])) u wz → RunQ w base lm hm nv na (.slice av nv dv) (.slice ab na db) ev (B + bnd d (stsN (ks.take (j + 1)))) u wz from fun u wz h => h.le (by rw [stsN_take hlt, bnd_add]; omega))
        have hp := St.parts_get ks j hlt
        have hp1 : St.sizes ks[j].body < n := by omega
        have hp2 : St.sizes ks[j].els < n := by omega
        clear hp hstB hsub
        have n1 : New wo (wo.alloc (.cells #[.int .i64 ks[j].kind, .int .i64 ks[j].target, .int .i64 ks[j].index.kind, .int .i64 ks[j].index.val, .slice a4 ks[j].index.kids.length c4, .int .i64 ks[j].value.kind, .int .i64 ks[j].value.val, .slice a7 ks[j].value.kids.length c7, .int .i64 ks[j].count, .slice a9 ks[j].body.length c9, .slice a10 ks[j].els.length c10] 92)) := (Kp.refl _ _).alloc _
        have A1 := A.new (by omega) n1
        have r4 := Lib.hid A1.ri
        have r7 := Lib.hid A1.rv
        have r9 := Lib.hid A1.rb
        have r10 := Lib.hid A1.re
        obtain ⟨hblo, hbhi, e0, e1, e2, e3, e4, e5, e6, e7, e8, e9, e10, _, _, _, _⟩ := A
        have bM1 := heap_new n1 bM0
        have bS1 := alloc_heap wo (.cells #[.int .i64 ks[j].kind, .int .i64 ks[j].target, .int .i64 ks[j].index.kind, .int .i64 ks[j].index.val, .slice a4 ks[j].index.kids.length c4, .int .i64 ks[j].value.kind, .int .i64 ks[j].value.val, .slice a7 ks[j].value.kids.length c7, .int .i64 ks[j].count, .slice a9 ks[j].body.length c9, .slice a10 ks[j].els.length c10] 92)
        have z1 : wo.heap.size < (wo.alloc (.cells #[.int .i64 ks[j].kind, .int .i64 ks[j].target, .int .i64 ks[j].index.kind, .int .i64 ks[j].index.val, .slice a4 ks[j].index.kids.length c4, .int .i64 ks[j].value.kind, .int .i64 ks[j].value.val, .slice a7 ks[j].value.kids.length c7, .int .i64 ks[j].count, .slice a9 ks[j].body.length c9, .slice a10 ks[j].els.length c10] 92)).heap.size := by simp
        have R1 := Lib.hid (hRh.out.new (by omega) n1)
        clear A1 n1 bM0
        generalize bnd d (stN ks[j]) = XX at *
        generalize hB1 : B + bnd d (stsN (ks.take j)) = B1 at *
        generalize ks[j] = x at *
        have hB2 : B1 + XX ≤ 2000000 := by omega
        clear hle hB1
        go_upto_region 6 with fail
        clear e0 e1 e2 e3 e4 e5 e6 e7 e8 e9 e10
        obtain ⟨bS, hbS⟩ : ∃ q, wo.heap.size = q := ⟨_, rfl⟩
        rw [hbS] at bS1 z1 ⊢
        have hbS1 : bM ≤ bS := by rw [← hbS]; omega
        have hbw2 : base ≤ bS := by omega
        clear hbS
        generalize (wo.alloc (.cells #[.int .i64 x.kind, .int .i64 x.target, .int .i64 x.index.kind, .int .i64 x.index.val, .slice a4 x.index.kids.length c4, .int .i64 x.value.kind, .int .i64 x.value.val, .slice a7 x.value.kids.length c7, .int .i64 x.count, .slice a9 x.body.length c9, .slice a10 x.els.length c10] 92)) = w1 at *
        clear hRh zw
        rcases hkind.out with ⟨hk | hk, ht0, ht1, hv⟩ | ⟨hk, ht0, ht1, hix, hv⟩ | ⟨hk, hv⟩ | ⟨hk, hc1, hc2⟩
        · as_aux_lemma =>
            rw [hk] at bS1
            obtain ⟨t, htn⟩ := Int.eq_ofNat_of_zero_le ht0
            rw [htn] at bS1 ht1
            have ht2 : t < nv := by omega
            clear ht0 ht1
            have hv1 : right nv na (.node x.value.kind x.value.val x.value.kids) = true := by rw [show Ex.node x.value.kind x.value.val x.value.kids = x.value by cases x.value; rfl]; exact hv
            have hvh := Lib.hid hv1
            clear hv hv1
            obtain ⟨cM0, cM1⟩ := cells2 bM1
            obtain ⟨cS0, cS1, cS2, cS3, cS4, cS5, cS6, cS7⟩ := cells8 bS1
            have cS8 := cell_of_heap bS1 8
            have cS9 := cell_of_heap bS1 9
            have cS10 := cell_of_heap bS1 10
            go_wp2_with fail
            refine (eval1 R1.out hvh.out r7.out hnv hna (by omega) hb (by omega) (by omega)).mono ?_
            rintro e w2 ⟨z, ev2, rfl, hz, R2, K2⟩
            have z2 := K2.size
            have bM2 := K2.box R1.out.start bM1 (by decide) (by omega)
            have bS2 := K2.box R1.out.start bS1 (by decide) (by omega)
            have K2h := Lib.hid K2
            have R2h := Lib.hid R2
            clear K2 R2
            clear cM0 cM1 cS0 cS1 cS2 cS3 cS4 cS5 cS6 cS7 cS8 cS9 cS10
            clear bM1 bS1
            obtain ⟨b, rfl, q1, q2, q3, ⟨u, qc⟩, qf, qs⟩ := R2h.out.vals hb ht2
            have qft := qf t
            clear qf
            obtain ⟨cM0, cM1⟩ := cells2 bM2
            obtain ⟨cS0, cS1, cS2, cS3, cS4, cS5, cS6, cS7⟩ := cells8 bS2
            have cS8 := cell_of_heap bS2 8
            have cS9 := cell_of_heap bS2 9
            have cS10 := cell_of_heap bS2 10
            have R3 := Lib.hid (qs z (by omega) (by omega))
            have kk : Kp (fun q => q = b) w2 (w2.setCell ⟨b, t, none⟩ (.int .i64 z)) := (Kp.refl (fun q => q = b) w2).setCell (.inl rfl) _
            have bM3 := (kk.block bM (heap_lt bM2) (by omega)).trans bM2
            have bS3 := (kk.block bS (heap_lt bS2) (by omega)).trans bS2
            have z3 := kk.size
            clear qs kk
            go_wp2
            go_roundw
            case rel => exact ⟨j + 1, _, by omega, by go_num, rfl, bM3, hfin.out _ _ (R3.out.le (by omega))⟩
            case measure => simp [intOf]; omega
        · as_aux_lemma =>
            rw [hk] at bS1
            obtain ⟨t, htn⟩ := Int.eq_ofNat_of_zero_le ht0
            rw [htn] at bS1 ht1
            have ht2 : t < nv := by omega
            clear ht0 ht1
            have hv1 : right nv na (.node x.value.kind x.value.val x.value.kids) = true := by rw [show Ex.node x.value.kind x.value.val x.value.kids = x.value by cases x.value; rfl]; exact hv
            have hvh := Lib.hid hv1
            clear hv hv1
            obtain ⟨cM0, cM1⟩ := cells2 bM1
            obtain ⟨cS0, cS1, cS2, cS3, cS4, cS5, cS6, cS7⟩ := cells8 bS1
            have cS8 := cell_of_heap bS1 8
            have cS9 := cell_of_heap bS1 9
            have cS10 := cell_of_heap bS1 10
            go_wp2_with fail
            refine (eval1 R1.out hvh.out r7.out hnv hna (by omega) hb (by omega) (by omega)).mono ?_
            rintro e w2 ⟨z, ev2, rfl, hz, R2, K2⟩
            have z2 := K2.size
            have bM2 := K2.box R1.out.start bM1 (by decide) (by omega)
            have bS2 := K2.box R1.out.start bS1 (by decide) (by omega)
            have K2h := Lib.hid K2
            have R2h := Lib.hid R2
            clear K2 R2
            clear cM0 cM1 cS0 cS1 cS2 cS3 cS4 cS5 cS6 cS7 cS8 cS9 cS10
            clear bM1 bS1
            obtain ⟨b, rfl, q1, q2, q3, ⟨u, qc⟩, qf, qs⟩ := R2h.out.vals hb ht2
            have qft := qf t
            clear qf
            obtain ⟨cM0, cM1⟩ := cells2 bM2
            obtain ⟨cS0, cS1, cS2, cS3, cS4, cS5, cS6, cS7⟩ := cells8 bS2
            have cS8 := cell_of_heap bS2 8
            have cS9 := cell_of_heap bS2 9
            have cS10 := cell_of_heap bS2 10
            have R3 := Lib.hid (qs z (by omega) (by omega))
            have kk : Kp (fun q => q = b) w2 (w2.setCell ⟨b, t, none⟩ (.int .i64 z)) := (Kp.refl (fun q => q = b) w2).setCell (.inl rfl) _
            have bM3 := (kk.block bM (heap_lt bM2) (by omega)).trans bM2
            have bS3 := (kk.block bS (heap_lt bS2) (by omega)).trans bS2
            have z3 := kk.size
            clear qs kk
            go_upto_region 13 with fail
            generalize w2.setCell ⟨b, t, none⟩ (.int .i64 z) = w3 at *
            clear cM0 cM1 cS0 cS1 cS2 cS3 cS4 cS5 cS6 cS7 cS8 cS9 cS10
            clear qc qft bM2 bS2 R2h K2h
            have kA : New w3 (w3.alloc (.cells #[.int .i64 4, .int .i64 z] 54)) := (Kp.refl _ _).alloc _
            have hx := Lib.hid (FlR.ev (alloc_heap w3 (.cells #[.int .i64 4, .int .i64 z] 54)))
            have RA := Lib.hid (R3.out.new (by omega) kA)
            have bMA := heap_new kA bM3
            have bSA := heap_new kA bS3
            have zA := kA.size
            obtain ⟨yaA, ybA, lA, _, _, _, EA, _, hlA⟩ := RA.out
            have EAh := Lib.hid EA
            clear EA kA
            go_wp2_with (at_builtin; refine wpList_pushesN rfl _ _ 25 rfl base 54 _ 16 Tryd.underlying25 EvI.infoE rfl (by decide) _ lA rfl EAh.out _ [(4, z)] rfl hx.out (fun q _ => EvI.oneE q) ?ca4 ?cb4 ?cc4 ?_)
            case ca4 => simp; omega
            case cb4 => simp; omega
            case cc4 => omega
            intro ev4 w4 hv4 hk4 ha4
            have K4 := Lib.hid (RA.out.start.push hb (by omega) hlA hv4 hk4 (ha4.imp id fun h => h.trans (by simp)))
            have R4 := Lib.hid (RA.out.trans K4.out)
            have z4 := K4.out.size
            have bM4 := K4.out.box RA.out.start bMA (by decide) (by omega)
            have bS4 := K4.out.box RA.out.start bSA (by decide) (by omega)
            clear hv4 hk4 ha4 hx EAh bMA bSA
            go_wp2
            go_roundw
            case rel => exact ⟨j + 1, _, by omega, by go_num, rfl, bM4, hfin.out _ _ (R4.out.le (by omega))⟩
            case measure => simp [intOf]; omega
        · as_aux_lemma =>
            rw [hk] at bS1
            obtain ⟨t, htn⟩ := Int.eq_ofNat_of_zero_le ht0
            rw [htn] at bS1 ht1
            have ht2 : t < na := by omega
            clear ht0 ht1
            have hi2 : right nv na (.node x.index.kind x.index.val x.index.kids) = true := by rw [show Ex.node x.index.kind x.index.val x.index.kids = x.index by cases x.index; rfl]; exact hix
            have hih := Lib.hid hi2
            clear hi2 hix
            have hv1 : right nv na (.node x.value.kind x.value.val x.value.kids) = true := by rw [show Ex.node x.value.kind x.value.val x.value.kids = x.value by cases x.value; rfl]; exact hv
            have hvh := Lib.hid hv1
            clear hv hv1
            obtain ⟨cM0, cM1⟩ := cells2 bM1
            obtain ⟨cS0, cS1, cS2, cS3, cS4, cS5, cS6, cS7⟩ := cells8 bS1
            have cS8 := cell_of_heap bS1 8
            have cS9 := cell_of_heap bS1 9
            have cS10 := cell_of_heap bS1 10
            go_wp2_with fail
            refine (eval1 R1.out hvh.out r7.out hnv hna (by omega) hb (by omega) (by omega)).mono ?_
            rintro e w2 ⟨z, ev2, rfl, hz, R2, K2⟩
            have z2 := K2.size
            have bM2 := K2.box R1.out.start bM1 (by decide) (by omega)
            have bS2 := K2.box R1.out.start bS1 (by decide) (by omega)
            have K2h := Lib.hid K2
            have R2h := Lib.hid R2
            clear K2 R2
            clear cM0 cM1 cS0 cS1 cS2 cS3 cS4 cS5 cS6 cS7 cS8 cS9 cS10
            clear bM1 bS1
            have r4b := Lib.hid (K2h.out.kids R1.out.low hlm (by omega) (by omega) r4.out)
            obtain ⟨cM0, cM1⟩ := cells2 bM2
            obtain ⟨cS0, cS1, cS2, cS3, cS4, cS5, cS6, cS7⟩ := cells8 bS2
            have cS8 := cell_of_heap bS2 8
            have cS9 := cell_of_heap bS2 9
            have cS10 := cell_of_heap bS2 10
            go_wp2_with fail
            refine (eval0 R2h.out hih.out r4b.out hnv hna (by omega) hb (by omega)).mono ?_
            rintro e w3 ⟨i, u, rfl, hi4, k3⟩
            have z3 := k3.size
            have bM3 := heap_new k3 bM2
            have bS3 := heap_new k3 bS2
            have R3 := Lib.hid (R2h.out.new (by omega) k3)
            clear cM0 cM1 cS0 cS1 cS2 cS3 cS4 cS5 cS6 cS7 cS8 cS9 cS10
            clear bM2 bS2 R2h K2h r4b k3
            obtain ⟨r, hr⟩ : ∃ r, i % 4 = r := ⟨_, rfl⟩
            have tm : (i : Int).tmod 4 = (r : Int) := by rw [Int.tmod_eq_emod_of_nonneg (by omega)]; omega
            have hr4 : r < 4 := by omega
            obtain ⟨b, c, d2, rfl, q1, q2, q3, q4, qb, ⟨u2, qc⟩, qf, qs⟩ := R3.out.rows hb ht2 hr4
            have qft := qf r
            clear qf hr
            obtain ⟨cM0, cM1⟩ := cells2 bM3
            obtain ⟨cS0, cS1, cS2, cS3, cS4, cS5, cS6, cS7⟩ := cells8 bS3
            have cS8 := cell_of_heap bS3 8
            have cS9 := cell_of_heap bS3 9
            have cS10 := cell_of_heap bS3 10
            have R4 := Lib.hid (qs z (by omega) (by omega))
            have kk : Kp (fun q => q = c) w3 (w3.setCell ⟨c, r, none⟩ (.int .i64 z)) := (Kp.refl (fun q => q = c) w3).setCell (.inl rfl) _
            have bM4 := (kk.block bM (heap_lt bM3) (by omega)).trans bM3
            have bS4 := (kk.block bS (heap_lt bS3) (by omega)).trans bS3
            have z4 := kk.size
            clear qs kk
            go_upto_region 17 with fail
            generalize w3.setCell ⟨c, r, none⟩ (.int .i64 z) = w4 at *
            clear cM0 cM1 cS0 cS1 cS2 cS3 cS4 cS5 cS6 cS7 cS8 cS9 cS10
            clear qb qc qft bM3 bS3 R3 tm
            obtain ⟨cM0, cM1⟩ := cells2 bM4
            obtain ⟨cS0, cS1, cS2, cS3, cS4, cS5, cS6, cS7⟩ := cells8 bS4
            have cS8 := cell_of_heap bS4 8
            have cS9 := cell_of_heap bS4 9
            have cS10 := cell_of_heap bS4 10
            go_wp2_with fail
            refine (OpV.l3Address _ _ _ (by omega) (by omega) (by omega) (by omega)).mono ?_
            rintro e w5 ⟨rfl, rfl⟩
            generalize addr (t : Int) (i : Int) = ad
            clear cM0 cM1 cS0 cS1 cS2 cS3 cS4 cS5 cS6 cS7 cS8 cS9 cS10
            have kA : New w4 (w4.alloc (.cells #[.int .i64 3, .int .i64 ad] 54)) := (Kp.refl _ _).alloc _
            have hx := Lib.hid (FlR.ev (alloc_heap w4 (.cells #[.int .i64 3, .int .i64 ad] 54)))
            have RA := Lib.hid (R4.out.new (by omega) kA)
            have bMA := heap_new kA bM4
            have bSA := heap_new kA bS4
            have zA := kA.size
            obtain ⟨yaA, ybA, lA, _, _, _, EA, _, hlA⟩ := RA.out
            have EAh := Lib.hid EA
            clear EA kA
            go_wp2_with (at_builtin; refine wpList_pushesN rfl _ _ 25 rfl base 54 _ 16 Tryd.underlying25 EvI.infoE rfl (by decide) _ lA rfl EAh.out _ [(3, ad)] rfl hx.out (fun q _ => EvI.oneE q) ?ca6 ?cb6 ?cc6 ?_)
            case ca6 => simp; omega
            case cb6 => simp; omega
            case cc6 => omega
            intro ev6 w6 hv6 hk6 ha6
            have K6 := Lib.hid (RA.out.start.push hb (by omega) hlA hv6 hk6 (ha6.imp id fun h => h.trans (by simp)))
            have R6 := Lib.hid (RA.out.trans K6.out)
            have z6 := K6.out.size
            have bM6 := K6.out.box RA.out.start bMA (by decide) (by omega)
            have bS6 := K6.out.box RA.out.start bSA (by decide) (by omega)
            clear hv6 hk6 ha6 hx EAh bMA bSA
            go_wp2
            go_roundw
            case rel => exact ⟨j + 1, _, by omega, by go_num, rfl, bM6, hfin.out _ _ (R6.out.le (by omega))⟩
            case measure => simp [intOf]; omega
        · as_aux_lemma =>
            rw [hk] at bS1
            have hv1 : right nv na (.node x.value.kind x.value.val x.value.kids) = true := by rw [show Ex.node x.value.kind x.value.val x.value.kids = x.value by cases x.value; rfl]; exact hv
            have hvh := Lib.hid hv1
            clear hv hv1
            obtain ⟨cM0, cM1⟩ := cells2 bM1
            obtain ⟨cS0, cS1, cS2, cS3, cS4, cS5, cS6, cS7⟩ := cells8 bS1
            have cS8 := cell_of_heap bS1 8
            have cS9 := cell_of_heap bS1 9
            have cS10 := cell_of_heap bS1 10
            go_wp2_with fail
            refine (eval1 R1.out hvh.out r7.out hnv hna (by omega) hb (by omega) (by omega)).mono ?_
            rintro e w2 ⟨z, ev2, rfl, hz, R2, K2⟩
            have z2 := K2.size
            have bM2 := K2.box R1.out.start bM1 (by decide) (by omega)
            have bS2 := K2.box R1.out.start bS1 (by decide) (by omega)
            have K2h := Lib.hid K2
            have R2h := Lib.hid R2
            clear K2 R2
            clear cM0 cM1 cS0 cS1 cS2 cS3 cS4 cS5 cS6 cS7 cS8 cS9 cS10
            clear bM1 bS1
            obtain ⟨cM0, cM1⟩ := cells2 bM2
            obtain ⟨cS0, cS1, cS2, cS3, cS4, cS5, cS6, cS7⟩ := cells8 bS2
            have cS8 := cell_of_heap bS2 8
            have cS9 := cell_of_heap bS2 9
            have cS10 := cell_of_heap bS2 10
            by_cases hz0 : z = 0
            · subst hz0
              go_wp2_with fail
              refine (OpV.l3Bool false _).mono ?_
              rintro e w5 ⟨rfl, rfl⟩
              simp only [OpV.one, Bool.false_eq_true, if_false]
              clear cM0 cM1 cS0 cS1 cS2 cS3 cS4 cS5 cS6 cS7 cS8 cS9 cS10
              have kA : New w2 (w2.alloc (.cells #[.int .i64 1, .int .i64 0] 54)) := (Kp.refl _ _).alloc _
              have hx := Lib.hid (FlR.ev (alloc_heap w2 (.cells #[.int .i64 1, .int .i64 0] 54)))
              have RA := Lib.hid (R2h.out.new (by omega) kA)
              have bMA := heap_new kA bM2
              have bSA := heap_new kA bS2
              have zA := kA.size
              obtain ⟨yaA, ybA, lA, _, _, _, EA, _, hlA⟩ := RA.out
              have EAh := Lib.hid EA
              clear EA kA
              go_wp2_with (at_builtin; refine wpList_pushesN rfl _ _ 25 rfl base 54 _ 16 Tryd.underlying25 EvI.infoE rfl (by decide) _ lA rfl EAh.out _ [(1, 0)] rfl hx.out (fun q _ => EvI.oneE q) ?ca6 ?cb6 ?cc6 ?_)
              case ca6 => simp; omega
              case cb6 => simp; omega
              case cc6 => omega
              intro ev6 w6 hv6 hk6 ha6
              have K6 := Lib.hid (RA.out.start.push hb (by omega) hlA hv6 hk6 (ha6.imp id fun h => h.trans (by simp)))
              have R6 := Lib.hid (RA.out.trans K6.out)
              have z6 := K6.out.size
              have bM6 := K6.out.box RA.out.start bMA (by decide) (by omega)
              have bS6 := K6.out.box RA.out.start bSA (by decide) (by omega)
              clear hv6 hk6 ha6 hx EAh bMA bSA
              obtain ⟨cM0, cM1⟩ := cells2 bM6
              obtain ⟨cS0, cS1, cS2, cS3, cS4, cS5, cS6, cS7⟩ := cells8 bS6
              have cS8 := cell_of_heap bS6 8
              have cS9 := cell_of_heap bS6 9
              have cS10 := cell_of_heap bS6 10
              have hbd := Lib.hid (K6.out.stmts RA.out.low hlm (by omega) (by omega) ((R2h.out.start.new (by omega) ((Kp.refl _ _).alloc _)).stmts R2h.out.low hlm (by omega) (by omega) (K2h.out.stmts R1.out.low hlm (by omega) (by omega) r10.out)))
              go_wp2_with fail
              refine (ihh.out w6 (d - 1) _ _ x.els _ (by omega) hB10.out (by omega) R6.out.start hbd.out (by omega)).mono ?_
              rintro e w7 ⟨ev7, rfl, K7⟩
              have R7 := Lib.hid (R6.out.trans K7)
              have bM7 := K7.box R6.out.start bM6 (by decide) (by omega)
              clear K7
              clear cM0 cM1 cS0 cS1 cS2 cS3 cS4 cS5 cS6 cS7 cS8 cS9 cS10
              go_wp2
              go_roundw
              case rel => exact ⟨j + 1, _, by omega, by go_num, rfl, bM7, hfin.out _ _ (R7.out.le (by omega))⟩
              case measure => simp [intOf]; omega
            · have hz1 : ((z : Int) != 0) = true := by simp [hz0]
              clear hz0
              go_wp2_with fail
              refine (OpV.l3Bool true _).mono ?_
              rintro e w5 ⟨rfl, rfl⟩
              simp only [OpV.one, if_true]
              clear cM0 cM1 cS0 cS1 cS2 cS3 cS4 cS5 cS6 cS7 cS8 cS9 cS10
              have kA : New w2 (w2.alloc (.cells #[.int .i64 1, .int .i64 1] 54)) := (Kp.refl _ _).alloc _
              have hx := Lib.hid (FlR.ev (alloc_heap w2 (.cells #[.int .i64 1, .int .i64 1] 54)))
              have RA := Lib.hid (R2h.out.new (by omega) kA)
              have bMA := heap_new kA bM2
              have bSA := heap_new kA bS2
              have zA := kA.size
              obtain ⟨yaA, ybA, lA, _, _, _, EA, _, hlA⟩ := RA.out
              have EAh := Lib.hid EA
              clear EA kA
              go_wp2_with (at_builtin; refine wpList_pushesN rfl _ _ 25 rfl base 54 _ 16 Tryd.underlying25 EvI.infoE rfl (by decide) _ lA rfl EAh.out _ [(1, 1)] rfl hx.out (fun q _ => EvI.oneE q) ?ca6 ?cb6 ?cc6 ?_)
              case ca6 => simp; omega
              case cb6 => simp; omega
              case cc6 => omega
              intro ev6 w6 hv6 hk6 ha6
              have K6 := Lib.hid (RA.out.start.push hb (by omega) hlA hv6 hk6 (ha6.imp id fun h => h.trans (by simp)))
              have R6 := Lib.hid (RA.out.trans K6.out)
              have z6 := K6.out.size
              have bM6 := K6.out.box RA.out.start bMA (by decide) (by omega)
              have bS6 := K6.out.box RA.out.start bSA (by decide) (by omega)
              clear hv6 hk6 ha6 hx EAh bMA bSA
              obtain ⟨cM0, cM1⟩ := cells2 bM6
              obtain ⟨cS0, cS1, cS2, cS3, cS4, cS5, cS6, cS7⟩ := cells8 bS6
              have cS8 := cell_of_heap bS6 8
              have cS9 := cell_of_heap bS6 9
              have cS10 := cell_of_heap bS6 10
              have hbd := Lib.hid (K6.out.stmts RA.out.low hlm (by omega) (by omega) ((R2h.out.start.new (by omega) ((Kp.refl _ _).alloc _)).stmts R2h.out.low hlm (by omega) (by omega) (K2h.out.stmts R1.out.low hlm (by omega) (by omega) r9.out)))
              go_wp2_with fail
              refine (ihh.out w6 (d - 1) _ _ x.body _ (by omega) hB9.out (by omega) R6.out.start hbd.out (by omega)).mono ?_
              rintro e w7 ⟨ev7, rfl, K7⟩
              have R7 := Lib.hid (R6.out.trans K7)
              have bM7 := K7.box R6.out.start bM6 (by decide) (by omega)
              clear K7
              clear cM0 cM1 cS0 cS1 cS2 cS3 cS4 cS5 cS6 cS7 cS8 cS9 cS10
              go_wp2
              go_roundw
              case rel => exact ⟨j + 1, _, by omega, by go_num, rfl, bM7, hfin.out _ _ (R7.out.le (by omega))⟩
              case measure => simp [intOf]; omega
        · as_aux_lemma =>
            rw [hk] at bS1
            obtain ⟨c, hcn⟩ := Int.eq_ofNat_of_zero_le (show 0 ≤ x.count by omega)
            rw [hcn] at bS1 hc1 hc2
            have hc3 : c ≤ 3 := by omega
            clear hc1 hc2
            obtain ⟨cM0, cM1⟩ := cells2 bM1
            obtain ⟨cS0, cS1, cS2, cS3, cS4, cS5, cS6, cS7⟩ := cells8 bS1
            have cS8 := cell_of_heap bS1 8
            have cS9 := cell_of_heap bS1 9
            have cS10 := cell_of_heap bS1 10
            go_upto_region 25 with fail
            clear hk hcn
            clear cM0 cM1 cS0 cS1 cS2 cS3 cS4 cS5 cS6 cS7 cS8 cS9 cS10
            generalize hbb : bnd (d - 1) (stsN x.body) = bb at *
            have hbbh := Lib.hid hbb
            clear hbb
            go_loopw [2, 12] (fun p i wr => ∃ (m : Nat) (ev2 : Value), m ≤ c ∧ i = .int .i64 m ∧ ev2 = p ∧ wr.heap[bM]? = some (.cells #[.slice av nv dv, .slice ab na db] 101 (0, 0)) ∧ wr.heap[bS]? = some (.cells #[.int .i64 4, .int .i64 x.target, .int .i64 x.index.kind, .int .i64 x.index.val, .slice a4 x.index.kids.length c4, .int .i64 x.value.kind, .int .i64 x.value.val, .slice a7 x.value.kids.length c7, .int .i64 c, .slice a9 x.body.length c9, .slice a10 x.els.length c10] 92 (0, 0)) ∧ RunQ w base lm hm nv na (.slice av nv dv) (.slice ab na db) ev (B1 + m * bb) ev2 wr ∧ RunQ w1 base lm hm nv na (.slice av nv dv) (.slice ab na db) ev1 (B1 + m * bb) ev2 wr) (fun _ i _ => c - (intOf i).toNat)
            case atStart => exact ⟨0, _, Nat.zero_le _, rfl, rfl, bM1, bS1, by simpa using R1.out, by simpa using R1.out.start⟩
            case round =>
              obtain ⟨m, ev2, hm2, rfl, rfl, bM2, bS2, R2, K2⟩ := hrel
              have z2 := K2.size
              have R2h := Lib.hid R2
              have K2h := Lib.hid K2
              clear R2 K2
              have hmb : m * bb ≤ 3 * bb := Nat.mul_le_mul_right _ (by omega)
              have hsm : (m + 1) * bb = m * bb + bb := Nat.succ_mul _ _
              by_cases hmc : m < c
              · have hmb2 : (m + 1) * bb ≤ 3 * bb := Nat.mul_le_mul_right _ (by omega)
                have hbd := Lib.hid (K2h.out.stmts R1.out.low hlm (by omega) (by omega) r9.out)
                obtain ⟨cM0, cM1⟩ := cells2 bM2
                obtain ⟨cS0, cS1, cS2, cS3, cS4, cS5, cS6, cS7⟩ := cells8 bS2
                have cS8 := cell_of_heap bS2 8
                have cS9 := cell_of_heap bS2 9
                have cS10 := cell_of_heap bS2 10
                go_wp2_with fail
                refine (ihh.out _ (d - 1) _ _ x.body _ (by omega) hB9.out (by omega) R2h.out.start hbd.out (by rw [hbbh.out]; omega)).mono ?_
                rw [hbbh.out]
                rintro e w7 ⟨ev7, rfl, K7⟩
                have R7 := Lib.hid ((R2h.out.trans K7).le (show _ ≤ B1 + (m + 1) * bb by omega))
                have L7 := Lib.hid ((K2h.out.trans K7).le (show _ ≤ B1 + (m + 1) * bb by omega))
                have bM7 := K7.box R2h.out.start bM2 (by decide) (by omega)
                have bS7 := K7.box R2h.out.start bS2 (by decide) (by omega)
                clear K7
                clear cM0 cM1 cS0 cS1 cS2 cS3 cS4 cS5 cS6 cS7 cS8 cS9 cS10
                go_wp2
                go_roundw
                case rel => exact ⟨m + 1, _, by omega, by go_num, rfl, bM7, bS7, R7.out, L7.out⟩
                case measure => simp [intOf]; omega
              · obtain ⟨cM0, cM1⟩ := cells2 bM2
                obtain ⟨cS0, cS1, cS2, cS3, cS4, cS5, cS6, cS7⟩ := cells8 bS2
                have cS8 := cell_of_heap bS2 8
                have cS9 := cell_of_heap bS2 9
                have cS10 := cell_of_heap bS2 10
                go_wp2
                go_roundw
                case rel => exact ⟨j + 1, _, by omega, by go_num, rfl, bM2, hfin.out _ _ (R2h.out.le (by omega))⟩
                case measure => simp [intOf]; omega
      · have hall : ks.take j = ks := List.take_of_length_le (by omega)
        rw [hall] at hRh
        obtain ⟨cM0, cM1⟩ := cells2 bM0
        go_wp2
        refine bodyPost_ret (results_tmp1 rfl _ _) rfl ?_
        exact ⟨_, rfl, hRh.out⟩
end Go.Proofs.YtckikiaockkmbaaDoor.RuS
