/- CompileProgram by spec. Conditions: the blocks that lead to the program are old; at most 2^20 nodes. -/
import Derived.Test.YtckikiaockkmbaaUCmpM
import Derived.Test.YtckikiaockkmbaaUCmpN
import Derived.Test.YtckikiaockkmbaaUP1
namespace Go.Proofs.Ytckikiaockkmbaa.CmpO
open Go.RowKit Kit Val CmpP CmpS CmpM CmpN
set_option linter.unusedVariables false
/-- what l7Compile answers -/
def GotS (xa xb : List Int) (l : List St) (w : World) (e : Ending) (w' : World) : Prop := New w w' ∧ ((fine xa xb l = false ∧ e = .returned (.tuple #[.agg #[.slice none 0 0, .slice none 0 0, .int .i64 0], .bool false])) ∨ fine xa xb l = true ∧ ∃ ul uf n, e = .returned (.tuple #[.agg #[ul, uf, .int .i64 n], .bool true]) ∧ OwnF 5 encN w' w.heap.size 76 ul (csts l 0 0 ++ [halt]) ∧ ∃ a m d, uf = .slice a m d)
set_option maxHeartbeats 8000000 in
set_option maxRecDepth 100000 in
theorem comp {w : World} {lo hi : Nat} {ta tb tc : Value} {xa xb : List Int} {l : List St} (sa : IntsR w lo hi ta xa) (sb : IntsR w lo hi tb xb) (s : StsR w lo hi tc l) (h1 : hi ≤ w.heap.size) (hm : St.sizes l ≤ 1048576) :
    Calls Try.prog 98 #[.agg #[ta, tb, tc]] w (GotS xa xb l w) := by
  obtain ⟨a1, d1, rfl, _⟩ := sa.len
  obtain ⟨a2, d2, rfl, _⟩ := sb.len
  obtain ⟨a3, d3, rfl, _⟩ := s.len
  have N0 : New w ((w.alloc (.cells #[.slice a1 xa.length d1, .slice a2 xb.length d2, .slice a3 l.length d3] 37)).alloc (.cells #[.slice none 0 0, .slice none 0 0, .int .i64 0] 104)) := ((Kp.refl _ _).alloc _).alloc _
  have bP_0 : ((w.alloc (.cells #[.slice a1 xa.length d1, .slice a2 xb.length d2, .slice a3 l.length d3] 37)).alloc (.cells #[.slice none 0 0, .slice none 0 0, .int .i64 0] 104)).heap[w.heap.size]? = some (.cells #[.slice a1 xa.length d1, .slice a2 xb.length d2, .slice a3 l.length d3] 37) := heap_old (alloc_heap _ _)
  have bR_0 : ((w.alloc (.cells #[.slice a1 xa.length d1, .slice a2 xb.length d2, .slice a3 l.length d3] 37)).alloc (.cells #[.slice none 0 0, .slice none 0 0, .int .i64 0] 104)).heap[w.heap.size + 1]? = some (.cells #[.slice none 0 0, .slice none 0 0, .int .i64 0] 104) := heap_at (by simp)
  have z0 : w.heap.size + 1 < ((w.alloc (.cells #[.slice a1 xa.length d1, .slice a2 xb.length d2, .slice a3 l.length d3] 37)).alloc (.cells #[.slice none 0 0, .slice none 0 0, .int .i64 0] 104)).heap.size := by simp
  have hsa := Lib.hid (sa.new h1 N0)
  have hsb := Lib.hid (sb.new h1 N0)
  have hss := Lib.hid (s.new h1 N0)
  clear sa sb s
  go_enter Try.func98, Try.ntmps98
  go_upto_region 1 with fail
  generalize ((w.alloc (.cells #[.slice a1 xa.length d1, .slice a2 xb.length d2, .slice a3 l.length d3] 37)).alloc (.cells #[.slice none 0 0, .slice none 0 0, .int .i64 0] 104)) = w0 at *
  obtain ⟨cP0, cP1, cP2⟩ := cells3 bP_0
  go_wp2_with fail
  refine (PgmV.specP hsa.out hsb.out hss.out (by omega) hm).mono ?_
  rintro e w1 ⟨rfl, hn1⟩
  have z1 := hn1.size
  have bP_1 := heap_new hn1 bP_0
  have bR_1 := heap_new hn1 bR_0
  have hs1 := Lib.hid (hss.out.new (by omega) hn1)
  have N1 := N0.trans hn1
  clear cP0 cP1 cP2 hn1 N0 hsa hsb hss bP_0 bR_0
  cases ht : progB xa xb l
  · have hth := Lib.hid (show fine xa xb l = false by rw [fine, ht]; rfl)
    have N1h := Lib.hid N1
    clear ht N1
    obtain ⟨cR0, cR1, cR2⟩ := cells3 bR_1
    have fR := frozen_of_heap bR_1
    have lR := heap_lt bR_1
    go_wp2
    have hkz := setMany_kp (w.heap.size + 1) [.slice none 0 0, .slice none 0 0, .int .i64 0] w1 0
    have hR := setMany_row [.slice none 0 0, .slice none 0 0, .int .i64 0] bR_1 rfl
    refine bodyPost_ret (results_cell_tmp rfl _ _ _ _ _ _ _ _ rfl rfl hR Try.underlying104 rfl (by kernel_rfl)) rfl ?_
    exact ⟨New.one N1h.out hkz (by omega), .inl ⟨hth.out, rfl⟩⟩
  · have hth := Lib.hid ht
    have hbl := Lib.hid (show blB xa.length xb.length l 5 = true by simp only [progB, Bool.and_eq_true] at ht; exact ht.1.2)
    have hsz := progB_size ht
    clear ht
    have C0 := Lib.hid (show CS w1 w1.heap.size (.slice none 0 0) (.slice none 0 0) [] (.slice none 0 0) (.slice none 0 0) w1 from ⟨[], Kp.refl _ _, OwnF.nil _ _ _, OwnF.nil _ _ _, rfl, Grew.refl _ _, Grew.refl _ _⟩)
    have cP2 := cell_of_heap bP_1 2
    have lR := heap_lt bR_1
    go_wp2_with fail
    refine (CmpM.does lo hi w1.heap.size xa.length xb.length (by omega) (St.sizes l + 1) w1 _ _ [] 0 _ l 0 5 (Nat.lt_succ_self _) hbl.out (by omega) (Nat.le_refl _) C0.out hs1.out (by simp only [List.length_nil]; omega) (Int.le_refl _) (by omega)).mono ?_
    rintro e w2 ⟨ul, uf, n2, rfl, K, m0, m1⟩
    rw [show ([] : List Ins) ++ csts l ([] : List Ins).length ((0 : Nat) : Int) = csts l 0 0 from rfl] at K
    have hcl := csts_le l 0 0
    obtain ⟨M, hM⟩ : ∃ M, csts l 0 0 = M := ⟨_, rfl⟩
    rw [hM] at K hcl
    have hMh := Lib.hid hM
    clear hM
    have bR2 := K.box C0.out bR_1 (by decide) (by decide)
    have z2 := K.size
    obtain ⟨⟨p2, q2, rfl⟩, pf2, qf2, rfl⟩ := K.lens
    have K2 := Lib.hid K
    clear K cP2 bP_1 bR_1 hs1
    have kA : New w2 (w2.alloc (.cells #[.slice p2 M.length q2, .slice pf2 M.length qf2, .int .i64 n2] 104)) := (Kp.refl _ _).alloc _
    have bV := alloc_heap w2 (.cells #[.slice p2 M.length q2, .slice pf2 M.length qf2, .int .i64 n2] 104)
    have K3 := Lib.hid (K2.out.new kA)
    have bR3 := heap_new kA bR2
    have z3 := kA.size
    go_upto_region 4 with fail
    generalize (w2.alloc (.cells #[.slice p2 M.length q2, .slice pf2 M.length qf2, .int .i64 n2] 104)) = w3 at *
    generalize hbv : w2.heap.size = bv at *
    have zv := heap_lt bV
    have hbv2 : w1.heap.size ≤ bv := by omega
    clear kA K2 bR2 hbv
    obtain ⟨cV0, cV1, cV2⟩ := cells3 bV
    have fV := frozen_of_heap bV
    go_wp2_with fail
    refine (CmpS.l7Add w3 w1.heap.size _ _ M n2 (-1) ⟨13, 0, 0, 0, 0⟩ K3.out.start (by omega) (by omega)).mono ?_
    rintro e w4 ⟨ul4, uf4, rfl, K⟩
    obtain ⟨MM, hMM⟩ : ∃ MM, M ++ [(⟨13, 0, 0, 0, 0⟩ : Ins)] = MM := ⟨_, rfl⟩
    have hML : MM.length = M.length + 1 := by rw [← hMM]; simp
    rw [hMM] at K
    have hMMh := Lib.hid hMM
    clear hMM
    have bR4 := K.box K3.out.start bR3 (by decide) (by decide)
    have bV4 := K.box K3.out.start bV (by decide) (by decide)
    have z4 := K.size
    have K4 := Lib.hid (K3.out.trans K)
    obtain ⟨⟨p4, q4, rfl⟩, pf4, qf4, rfl⟩ := K.lens
    obtain ⟨kk, hkk⟩ : ∃ kk, MM.length = kk := ⟨_, rfl⟩
    simp only [hkk] at K4 hML ⊢
    have hMLh := Lib.hid hML
    clear K K3 bR3 bV hkk cV0 cV1 cV2 fV hML
    have kz : Kp (fun i => i = bv) w4 (((w4.setCell ⟨bv, 0, none⟩ (.slice p4 kk q4)).setCell ⟨bv, 1, none⟩ (.slice pf4 kk qf4)).setCell ⟨bv, 2, none⟩ (.int .i64 n2)) := (((Kp.refl (fun i => i = bv) _).setCell (.inl rfl) _).setCell (.inl rfl) _).setCell (.inl rfl) _
    have bV5 : (((w4.setCell ⟨bv, 0, none⟩ (.slice p4 kk q4)).setCell ⟨bv, 1, none⟩ (.slice pf4 kk qf4)).setCell ⟨bv, 2, none⟩ (.int .i64 n2)).heap[bv]? = some (.cells #[.slice p4 kk q4, .slice pf4 kk qf4, .int .i64 n2] 104) := setCell_heap (setCell_heap (setCell_heap bV4 _) _) _
    have bR5 := kz.bo bR4
    have K5 := Lib.hid (K4.out.one bV4 kz hbv2 (by decide) (by decide))
    have z5 := kz.size
    obtain ⟨cV0, cV1, cV2⟩ := cells3 bV4
    have fV := frozen_of_heap bV4
    have lV := heap_lt bV4
    go_upto_region 5 with fail
    generalize (((w4.setCell ⟨bv, 0, none⟩ (.slice p4 kk q4)).setCell ⟨bv, 1, none⟩ (.slice pf4 kk qf4)).setCell ⟨bv, 2, none⟩ (.int .i64 n2)) = w5 at *
    clear kz bV4 bR4 K4 cV0 cV1 cV2 fV lV
    obtain ⟨cV0, cV1, cV2⟩ := cells3 bV5
    obtain ⟨cR0, cR1, cR2⟩ := cells3 bR5
    have fR := frozen_of_heap bR5
    have lR5 := heap_lt bR5
    have N5 := Lib.hid (show New w w5 by obtain ⟨F, Kk, _⟩ := K5.out; exact New.on N1 Kk (fun c hc => by simp [Value.ownBlock] at hc))
    clear N1
    by_cases hle : kk ≤ 400
    · have hf := Lib.hid (show fine xa xb l = true by rw [fine, hth.out, hMh.out, Bool.true_and]; exact decide_eq_true (by have := hMLh.out; omega))
      have hgt : ((kk : Int) > 400) = False := by simp; omega
      have hle2 : (kk : Int) ≤ 400 := by omega
      go_wp2
      have hkz := setMany_kp (w.heap.size + 1) [.slice p4 kk q4, .slice pf4 kk qf4, .int .i64 n2] w5 0
      have hR := setMany_row [.slice p4 kk q4, .slice pf4 kk qf4, .int .i64 n2] bR5 rfl
      refine bodyPost_ret (results_cell_tmp rfl _ _ _ _ _ _ _ _ rfl rfl hR Try.underlying104 rfl (by kernel_rfl)) rfl ?_
      obtain ⟨F, Kk, A, Bb, _⟩ := K5.out
      have A2 := A.kp hkz (fun b hb e => OwnF.box A bR5 (by decide) (by rw [← e]; exact hb))
      exact ⟨New.one N5.out hkz (by omega), .inr ⟨hf.out, _, _, _, rfl, by rw [hMh.out, show halt = (⟨13, 0, 0, 0, 0⟩ : Ins) from rfl, hMMh.out]; exact A2.mono (by omega), _, _, _, rfl⟩⟩
    · have hf := Lib.hid (show fine xa xb l = false by rw [fine, hth.out, hMh.out, Bool.true_and]; exact decide_eq_false (by have := hMLh.out; omega))
      have hgt : (400 : Int) < (kk : Int) := by omega
      go_wp2
      have hkz := setMany_kp (w.heap.size + 1) [.slice none 0 0, .slice none 0 0, .int .i64 0] w5 0
      have hR := setMany_row [.slice none 0 0, .slice none 0 0, .int .i64 0] bR5 rfl
      refine bodyPost_ret (results_cell_tmp rfl _ _ _ _ _ _ _ _ rfl rfl hR Try.underlying104 rfl (by kernel_rfl)) rfl ?_
      exact ⟨New.one N5.out hkz (by omega), .inl ⟨hf.out, rfl⟩⟩
set_option maxHeartbeats 8000000 in
set_option maxRecDepth 100000 in
theorem specC {w : World} {lo hi : Nat} {ta tb tc : Value} {xa xb : List Int} {l : List St} (sa : IntsR w lo hi ta xa) (sb : IntsR w lo hi tb xb) (s : StsR w lo hi tc l) (h1 : hi ≤ w.heap.size) (hm : St.sizes l ≤ 1048576) :
    Calls Try.prog 52 #[.agg #[ta, tb, tc]] w (GotK xa xb l w) := by
  obtain ⟨a1, d1, rfl, _⟩ := sa.len
  obtain ⟨a2, d2, rfl, _⟩ := sb.len
  obtain ⟨a3, d3, rfl, _⟩ := s.len
  have N0 : New w ((w.alloc (.cells #[.slice a1 xa.length d1, .slice a2 xb.length d2, .slice a3 l.length d3] 37)).alloc (.cells #[.slice none 0 0, .slice none 0 0, .slice none 0 0] 70)) := ((Kp.refl _ _).alloc _).alloc _
  have bP_0 : ((w.alloc (.cells #[.slice a1 xa.length d1, .slice a2 xb.length d2, .slice a3 l.length d3] 37)).alloc (.cells #[.slice none 0 0, .slice none 0 0, .slice none 0 0] 70)).heap[w.heap.size]? = some (.cells #[.slice a1 xa.length d1, .slice a2 xb.length d2, .slice a3 l.length d3] 37) := heap_old (alloc_heap _ _)
  have bR_0 : ((w.alloc (.cells #[.slice a1 xa.length d1, .slice a2 xb.length d2, .slice a3 l.length d3] 37)).alloc (.cells #[.slice none 0 0, .slice none 0 0, .slice none 0 0] 70)).heap[w.heap.size + 1]? = some (.cells #[.slice none 0 0, .slice none 0 0, .slice none 0 0] 70) := heap_at (by simp)
  have z0 : w.heap.size + 1 < ((w.alloc (.cells #[.slice a1 xa.length d1, .slice a2 xb.length d2, .slice a3 l.length d3] 37)).alloc (.cells #[.slice none 0 0, .slice none 0 0, .slice none 0 0] 70)).heap.size := by simp
  have hsa := Lib.hid (sa.new h1 N0)
  have hsb := Lib.hid (sb.new h1 N0)
  have hss := Lib.hid (s.new h1 N0)
  clear sa sb s
  go_enter Try.func52, Try.ntmps52
  go_upto_region 1 with fail
  generalize ((w.alloc (.cells #[.slice a1 xa.length d1, .slice a2 xb.length d2, .slice a3 l.length d3] 37)).alloc (.cells #[.slice none 0 0, .slice none 0 0, .slice none 0 0] 70)) = w0 at *
  obtain ⟨cP0, cP1, cP2⟩ := cells3 bP_0
  go_wp2_with fail
  refine (comp hsa.out hsb.out hss.out (by omega) hm).mono ?_
  rintro e w1 ⟨hn1, hcase⟩
  have z1 := hn1.size
  have bP_1 := heap_new hn1 bP_0
  have bR_1 := heap_new hn1 bR_0
  have sa1 := Lib.hid (hsa.out.new (by omega) hn1)
  have sb1 := Lib.hid (hsb.out.new (by omega) hn1)
  have N1 := N0.trans hn1
  clear cP0 cP1 cP2 hn1 N0 hsa hsb hss bP_0 bR_0
  rcases hcase with ⟨hf, rfl⟩ | ⟨hf, ul, uf, n, rfl, A, af, mf, df, rfl⟩
  · have hfh := Lib.hid hf
    have N1h := Lib.hid N1
    clear hf N1
    have kA : New w1 (w1.alloc (.cells #[.slice none 0 0, .slice none 0 0, .int .i64 0] 104)) := (Kp.refl _ _).alloc _
    have bR_2 := heap_new kA bR_1
    have N2 := Lib.hid (N1h.out.trans kA)
    have z2 := kA.size
    go_upto_region 2 with fail
    generalize w1.alloc (.cells #[.slice none 0 0, .slice none 0 0, .int .i64 0] 104) = w2 at *
    clear kA bR_1
    obtain ⟨cR0, cR1, cR2⟩ := cells3 bR_2
    have fR := frozen_of_heap bR_2
    have lR := heap_lt bR_2
    go_wp2
    have hkz := setMany_kp (w.heap.size + 1) [.slice none 0 0, .slice none 0 0, .slice none 0 0] w2 0
    have hR := setMany_row [.slice none 0 0, .slice none 0 0, .slice none 0 0] bR_2 rfl
    refine bodyPost_ret (results_cell_tmp rfl _ _ _ _ _ _ _ _ rfl rfl hR Try.underlying70 rfl (by kernel_rfl)) rfl ?_
    exact ⟨_, _, _, by rw [hfh.out]; rfl, New.one N2.out hkz (by omega), by rw [hfh.out]; exact .nil _ _, by rw [hfh.out]; exact .nil _ _, by rw [hfh.out]; exact .nil _ _⟩
  · obtain ⟨a4, d4, rfl, _⟩ := A.reads.len
    have A1 := Lib.hid A
    have hfl := Lib.hid (fine_len hf)
    have hfh := Lib.hid hf
    have N1h := Lib.hid N1
    clear hf N1 A
    obtain ⟨M, hM⟩ : ∃ M, csts l 0 0 ++ [halt] = M := ⟨_, rfl⟩
    rw [hM] at A1
    rw [hM]
    have hMh := Lib.hid hM
    obtain ⟨kk, hkk⟩ : ∃ kk, M.length = kk := ⟨_, rfl⟩
    rw [hkk] at A1
    rw [hkk]
    clear hM hkk
    have kA : New w1 (w1.alloc (.cells #[.slice a4 kk d4, .slice af mf df, .int .i64 n] 104)) := (Kp.refl _ _).alloc _
    have bV := alloc_heap w1 (.cells #[.slice a4 kk d4, .slice af mf df, .int .i64 n] 104)
    have bP_2 := heap_new kA bP_1
    have bR_2 := heap_new kA bR_1
    have A2 := Lib.hid (A1.out.new kA)
    have sa2 := Lib.hid (sa1.out.new (by omega) kA)
    have sb2 := Lib.hid (sb1.out.new (by omega) kA)
    have N2 := Lib.hid (N1h.out.trans kA)
    have z2 := kA.size
    go_upto_region 2 with fail
    generalize w1.alloc (.cells #[.slice a4 kk d4, .slice af mf df, .int .i64 n] 104) = w2 at *
    generalize w1.heap.size = bv at *
    clear kA bP_1 bR_1 A1 sa1 sb1 N1h
    have hbv : w.heap.size + 1 < bv := by omega
    have zv := heap_lt bV
    obtain ⟨cP0, cP1⟩ := cells2 bP_2
    have cV0 := cell_of_heap bV 0
    go_wp2_with fail
    refine wp_region_tail (k := 11) (S := fun w' => w'.cell? ⟨w.heap.size, 0, none⟩ = some (.slice a1 xa.length d1) ∧ w'.cell? ⟨w.heap.size, 1, none⟩ = some (.slice a2 xb.length d2) ∧ w'.cell? ⟨bv, 0, none⟩ = some (.slice a4 kk d4)) (by kernel_rfl) ?_ (fun hHeld => ?_)
    · exact ⟨cP0, cP1, cV0⟩
    have kd : New w2 w2.drew := (Kp.refl _ _).drew
    have Ns := Lib.hid (N2.out.trans kd)
    have bPs := heap_new kd bP_2
    have bRs := heap_new kd bR_2
    have bVs := heap_new kd bV
    have As := Lib.hid (A2.out.new kd)
    have sas := Lib.hid (sa2.out.new (by omega) kd)
    have sbs := Lib.hid (sb2.out.new (by omega) kd)
    have zs := kd.size
    generalize w2.drew = ws at *
    clear kd N2 bP_2 bR_2 bV A2 sa2 sb2 cP0 cP1 cV0
    obtain ⟨cP0s, cP1s⟩ := cells2 bPs
    have cV0s := cell_of_heap bVs 0
    refine AnyK.tw 1 rfl ?_
    try simp only [AP]
    refine AnyK.tk 2 rfl ?_
    try simp only [AP]
    refine AnyK.tw 5 rfl ?_
    try simp only [AP]
    refine AnyK.tk 6 rfl ?_
    try simp only [AP]
    refine AnyK.tw 8 rfl ?_
    try simp only [AP]
    refine AnyK.tk 9 rfl ?_
    try simp only [AP]
    refine AnyK.two (i := 0) (j := 4) (by kernel_rfl) rfl rfl (fun K hK => ?_) (fun K hK => ?_)
    · go_simp
      have kA : New ws (ws.alloc (.cells #[] 3)) := (Kp.refl _ _).alloc _
      have yAs0 : ws.heap.size < (ws.alloc (.cells #[] 3)).heap.size := by simp
      have EAs0 := Lib.hid (OwnF.empty (α := Int) (n := 1) (enc := encI) ws 3 (base := ws.heap.size) (Nat.le_refl _))
      have bPs0 := heap_new kA bPs
      have bRs0 := heap_new kA bRs
      have bVs0 := heap_new kA bVs
      have sas0 := Lib.hid (sas.out.new (by omega) kA)
      have sbs0 := Lib.hid (sbs.out.new (by omega) kA)
      have As0 := Lib.hid (As.out.new kA)
      have Ns0 := Lib.hid (Ns.out.trans kA)
      generalize ws.alloc (.cells #[] 3) = ws0 at *
      generalize ws.heap.size = eA at *
      clear kA bPs bRs bVs sas sbs As Ns cP0s cP1s cV0s
      obtain ⟨cP0s0, cP1s0⟩ := cells2 bPs0
      have cV0s0 := cell_of_heap bVs0 0
      refine hK.out _ _ ?_ (fun hHeld2 => ?_)
      · exact ⟨cP0s0, cP1s0, cV0s0⟩
      clear hK K hHeld
      have hHeld := hHeld2
      clear hHeld2
      try simp only [AP]
      refine AnyK.two (i := 3) (j := 4) (by kernel_rfl) rfl rfl (fun K hK => ?_) (fun K hK => ?_)
      · refine step_pushes rfl (.tmp 14) (.tmp 16) 34 rfl eA 3 _ _ Try.underlying34 LawF.infoI rfl (by decide) (.slice (some ⟨eA, 0, none⟩) 0 0) [] rfl EAs0.out _ xa rfl sas0.out (fun _ _ _ => rfl) ?_ ?_ ?_ ?_
        · have := hfl.out; simp; omega
        · have := hfl.out; simp; omega
        · omega
        intro vA ws03 hv hk ha
        have k1 : One eA ws0 ws03 := hk.mono fun k _ e => by simpa [Value.ownBlock] using e.symm
        have ys03 : ws0.heap.size ≤ ws03.heap.size := k1.size
        have bPs03 := k1.bo bPs0
        have bRs03 := k1.bo bRs0
        have bVs03 := k1.bo bVs0
        have sas03 := Lib.hid (sas0.out.kp k1 (by omega) (fun b e => .inr (by omega)))
        have sbs03 := Lib.hid (sbs0.out.kp k1 (by omega) (fun b e => .inr (by omega)))
        have As03 := Lib.hid (As0.out.kp hk (fun c e1 e2 => OwnF.apart As0.out EAs0.out (by decide) c e1 e2))
        have Ns03 := Lib.hid (New.one Ns0.out k1 (by omega))
        have OAs03 := Lib.hid (show OwnF 1 encI ws03 eA 3 vA xa by simpa using hv)
        obtain ⟨xA, yA, rfl, _⟩ := OAs03.out.reads.len
        have OAlt : ∀ b, (Value.slice xA xa.length yA).ownBlock = some b → (b = eA ∨ ws0.heap.size ≤ b) ∧ b < ws03.heap.size := fun b hb => ⟨ha.elim (fun h => .inl (by rw [h] at hb; simpa [Value.ownBlock] using hb.symm)) (fun h => .inr (by rw [h] at hb; simp at hb; omega)), (OAs03.out.lt b hb).2⟩
        clear hv hk k1 ha bPs0 bRs0 bVs0 sas0 sbs0 As0 Ns0 cP0s0 cP1s0 cV0s0 EAs0
        obtain ⟨cP0s03, cP1s03⟩ := cells2 bPs03
        have cV0s03 := cell_of_heap bVs03 0
        refine hK.out _ _ ?_ (fun hHeld2 => ?_)
        · exact ⟨cP0s03, cP1s03, cV0s03⟩
        clear hK K hHeld
        have hHeld := hHeld2
        clear hHeld2
        try simp only [AP]
        refine AnyK.step (i := 4) (by kernel_rfl) rfl (fun K hK => ?_)
        go_simp
        have kA : New ws03 (ws03.alloc (.cells #[] 3)) := (Kp.refl _ _).alloc _
        have yBs034 : ws03.heap.size < (ws03.alloc (.cells #[] 3)).heap.size := by simp
        have EBs034 := Lib.hid (OwnF.empty (α := Int) (n := 1) (enc := encI) ws03 3 (base := ws03.heap.size) (Nat.le_refl _))
        have bPs034 := heap_new kA bPs03
        have bRs034 := heap_new kA bRs03
        have bVs034 := heap_new kA bVs03
        have sas034 := Lib.hid (sas03.out.new (by omega) kA)
        have sbs034 := Lib.hid (sbs03.out.new (by omega) kA)
        have As034 := Lib.hid (As03.out.new kA)
        have Ns034 := Lib.hid (Ns03.out.trans kA)
        have OAs034 := Lib.hid (OAs03.out.new kA)
        generalize ws03.alloc (.cells #[] 3) = ws034 at *
        generalize ws03.heap.size = eB at *
        clear kA bPs03 bRs03 bVs03 sas03 sbs03 As03 Ns03 cP0s03 cP1s03 cV0s03 OAs03
        obtain ⟨cP0s034, cP1s034⟩ := cells2 bPs034
        have cV0s034 := cell_of_heap bVs034 0
        refine hK.out _ _ ?_ (fun hHeld2 => ?_)
        · exact ⟨cP0s034, cP1s034, cV0s034⟩
        clear hK K hHeld
        have hHeld := hHeld2
        clear hHeld2
        try simp only [AP]
        refine AnyK.step (i := 7) (by kernel_rfl) rfl (fun K hK => ?_)
        refine step_pushes rfl (.tmp 18) (.tmp 20) 34 rfl eB 3 _ _ Try.underlying34 LawF.infoI rfl (by decide) (.slice (some ⟨eB, 0, none⟩) 0 0) [] rfl EBs034.out _ xb rfl sbs034.out (fun _ _ _ => rfl) ?_ ?_ ?_ ?_
        · have := hfl.out; simp; omega
        · have := hfl.out; simp; omega
        · omega
        intro vB ws0347 hv hk ha
        have k1 : One eB ws034 ws0347 := hk.mono fun k _ e => by simpa [Value.ownBlock] using e.symm
        have ys0347 : ws034.heap.size ≤ ws0347.heap.size := k1.size
        have bPs0347 := k1.bo bPs034
        have bRs0347 := k1.bo bRs034
        have bVs0347 := k1.bo bVs034
        have sas0347 := Lib.hid (sas034.out.kp k1 (by omega) (fun b e => .inr (by omega)))
        have sbs0347 := Lib.hid (sbs034.out.kp k1 (by omega) (fun b e => .inr (by omega)))
        have As0347 := Lib.hid (As034.out.kp hk (fun c e1 e2 => OwnF.apart As034.out EBs034.out (by decide) c e1 e2))
        have Ns0347 := Lib.hid (New.one Ns034.out k1 (by omega))
        have OAs0347 := Lib.hid (OAs034.out.kp k1 (fun b hb e => by have := OAlt b hb; omega))
        have OBs0347 := Lib.hid (show OwnF 1 encI ws0347 eB 3 vB xb by simpa using hv)
        obtain ⟨xB, yB, rfl, _⟩ := OBs0347.out.reads.len
        have OBlt : ∀ b, (Value.slice xB xb.length yB).ownBlock = some b → (b = eB ∨ ws034.heap.size ≤ b) ∧ b < ws0347.heap.size := fun b hb => ⟨ha.elim (fun h => .inl (by rw [h] at hb; simpa [Value.ownBlock] using hb.symm)) (fun h => .inr (by rw [h] at hb; simp at hb; omega)), (OBs0347.out.lt b hb).2⟩
        clear hv hk k1 ha bPs034 bRs034 bVs034 sas034 sbs034 As034 Ns034 cP0s034 cP1s034 cV0s034 EBs034 OAs034
        obtain ⟨cP0s0347, cP1s0347⟩ := cells2 bPs0347
        have cV0s0347 := cell_of_heap bVs0347 0
        refine hK.out _ _ ?_ (fun hHeld2 => ?_)
        · exact ⟨cP0s0347, cP1s0347, cV0s0347⟩
        clear hK K hHeld
        have hHeld := hHeld2
        clear hHeld2
        try simp only [AP]
        refine AnyK.tw 10 rfl ?_
        try simp only [AP]
        refine AnyK.last (by kernel_rfl) ?_
        simp only [List.drop_succ_cons, List.drop_zero]
        clear hHeld
        obtain ⟨cR0, cR1, cR2⟩ := cells3 bRs0347
        have fR := frozen_of_heap bRs0347
        have lR := heap_lt bRs0347
        clear OAlt OBlt
        go_wp2
        have hkz := setMany_kp (w.heap.size + 1) [.slice xA xa.length yA, .slice xB xb.length yB, .slice a4 kk d4] ws0347 0
        have hR := setMany_row [.slice xA xa.length yA, .slice xB xb.length yB, .slice a4 kk d4] bRs0347 rfl
        refine bodyPost_ret (results_cell_tmp rfl _ _ _ _ _ _ _ _ rfl rfl hR Try.underlying70 rfl (by kernel_rfl)) rfl ?_
        have OA3 := OAs0347.out.reads.kp hkz (Nat.le_refl _) (fun i e => .inl (by omega))
        have OB3 := OBs0347.out.reads.kp hkz (Nat.le_refl _) (fun i e => .inl (by omega))
        have AD := As0347.out.kp hkz (fun b hb e => OwnF.box As0347.out bRs0347 (by decide) (by rw [← e]; exact hb))
        have hz2 := hkz.size
        refine ⟨_, _, _, by rw [hfh.out]; rfl, New.one Ns0347.out hkz (by omega), ?_, ?_, ?_⟩
        · rw [if_pos hfh.out]; exact OA3.mono (by omega) hz2
        · rw [if_pos hfh.out]; exact OB3.mono (by omega) hz2
        · rw [if_pos hfh.out, hMh.out]; exact AD.reads.mono (by omega) (Nat.le_refl _)
      · go_simp
        have kA : New ws0 (ws0.alloc (.cells #[] 3)) := (Kp.refl _ _).alloc _
        have yBs04 : ws0.heap.size < (ws0.alloc (.cells #[] 3)).heap.size := by simp
        have EBs04 := Lib.hid (OwnF.empty (α := Int) (n := 1) (enc := encI) ws0 3 (base := ws0.heap.size) (Nat.le_refl _))
        have bPs04 := heap_new kA bPs0
        have bRs04 := heap_new kA bRs0
        have bVs04 := heap_new kA bVs0
        have sas04 := Lib.hid (sas0.out.new (by omega) kA)
        have sbs04 := Lib.hid (sbs0.out.new (by omega) kA)
        have As04 := Lib.hid (As0.out.new kA)
        have Ns04 := Lib.hid (Ns0.out.trans kA)
        have EAs04 := Lib.hid (EAs0.out.new kA)
        generalize ws0.alloc (.cells #[] 3) = ws04 at *
        generalize ws0.heap.size = eB at *
        clear kA bPs0 bRs0 bVs0 sas0 sbs0 As0 Ns0 cP0s0 cP1s0 cV0s0 EAs0
        obtain ⟨cP0s04, cP1s04⟩ := cells2 bPs04
        have cV0s04 := cell_of_heap bVs04 0
        refine hK.out _ _ ?_ (fun hHeld2 => ?_)
        · exact ⟨cP0s04, cP1s04, cV0s04⟩
        clear hK K hHeld
        have hHeld := hHeld2
        clear hHeld2
        try simp only [AP]
        refine AnyK.step (i := 3) (by kernel_rfl) rfl (fun K hK => ?_)
        refine step_pushes rfl (.tmp 14) (.tmp 16) 34 rfl eA 3 _ _ Try.underlying34 LawF.infoI rfl (by decide) (.slice (some ⟨eA, 0, none⟩) 0 0) [] rfl EAs04.out _ xa rfl sas04.out (fun _ _ _ => rfl) ?_ ?_ ?_ ?_
        · have := hfl.out; simp; omega
        · have := hfl.out; simp; omega
        · omega
        intro vA ws043 hv hk ha
        have k1 : One eA ws04 ws043 := hk.mono fun k _ e => by simpa [Value.ownBlock] using e.symm
        have ys043 : ws04.heap.size ≤ ws043.heap.size := k1.size
        have bPs043 := k1.bo bPs04
        have bRs043 := k1.bo bRs04
        have bVs043 := k1.bo bVs04
        have sas043 := Lib.hid (sas04.out.kp k1 (by omega) (fun b e => .inr (by omega)))
        have sbs043 := Lib.hid (sbs04.out.kp k1 (by omega) (fun b e => .inr (by omega)))
        have As043 := Lib.hid (As04.out.kp hk (fun c e1 e2 => OwnF.apart As04.out EAs04.out (by decide) c e1 e2))
        have Ns043 := Lib.hid (New.one Ns04.out k1 (by omega))
        have EBs043 := Lib.hid (EBs04.out.kp k1 (fun b hb e => by simp [Value.ownBlock] at hb; omega))
        have OAs043 := Lib.hid (show OwnF 1 encI ws043 eA 3 vA xa by simpa using hv)
        obtain ⟨xA, yA, rfl, _⟩ := OAs043.out.reads.len
        have OAlt : ∀ b, (Value.slice xA xa.length yA).ownBlock = some b → (b = eA ∨ ws04.heap.size ≤ b) ∧ b < ws043.heap.size := fun b hb => ⟨ha.elim (fun h => .inl (by rw [h] at hb; simpa [Value.ownBlock] using hb.symm)) (fun h => .inr (by rw [h] at hb; simp at hb; omega)), (OAs043.out.lt b hb).2⟩
        clear hv hk k1 ha bPs04 bRs04 bVs04 sas04 sbs04 As04 Ns04 cP0s04 cP1s04 cV0s04 EAs04 EBs04
        obtain ⟨cP0s043, cP1s043⟩ := cells2 bPs043
        have cV0s043 := cell_of_heap bVs043 0
        refine hK.out _ _ ?_ (fun hHeld2 => ?_)
        · exact ⟨cP0s043, cP1s043, cV0s043⟩
        clear hK K hHeld
        have hHeld := hHeld2
        clear hHeld2
        try simp only [AP]
        refine AnyK.step (i := 7) (by kernel_rfl) rfl (fun K hK => ?_)
        refine step_pushes rfl (.tmp 18) (.tmp 20) 34 rfl eB 3 _ _ Try.underlying34 LawF.infoI rfl (by decide) (.slice (some ⟨eB, 0, none⟩) 0 0) [] rfl EBs043.out _ xb rfl sbs043.out (fun _ _ _ => rfl) ?_ ?_ ?_ ?_
        · have := hfl.out; simp; omega
        · have := hfl.out; simp; omega
        · omega
        intro vB ws0437 hv hk ha
        have k1 : One eB ws043 ws0437 := hk.mono fun k _ e => by simpa [Value.ownBlock] using e.symm
        have ys0437 : ws043.heap.size ≤ ws0437.heap.size := k1.size
        have bPs0437 := k1.bo bPs043
        have bRs0437 := k1.bo bRs043
        have bVs0437 := k1.bo bVs043
        have sas0437 := Lib.hid (sas043.out.kp k1 (by omega) (fun b e => .inr (by omega)))
        have sbs0437 := Lib.hid (sbs043.out.kp k1 (by omega) (fun b e => .inr (by omega)))
        have As0437 := Lib.hid (As043.out.kp hk (fun c e1 e2 => OwnF.apart As043.out EBs043.out (by decide) c e1 e2))
        have Ns0437 := Lib.hid (New.one Ns043.out k1 (by omega))
        have OAs0437 := Lib.hid (OAs043.out.kp k1 (fun b hb e => by have := OAlt b hb; omega))
        have OBs0437 := Lib.hid (show OwnF 1 encI ws0437 eB 3 vB xb by simpa using hv)
        obtain ⟨xB, yB, rfl, _⟩ := OBs0437.out.reads.len
        have OBlt : ∀ b, (Value.slice xB xb.length yB).ownBlock = some b → (b = eB ∨ ws043.heap.size ≤ b) ∧ b < ws0437.heap.size := fun b hb => ⟨ha.elim (fun h => .inl (by rw [h] at hb; simpa [Value.ownBlock] using hb.symm)) (fun h => .inr (by rw [h] at hb; simp at hb; omega)), (OBs0437.out.lt b hb).2⟩
        clear hv hk k1 ha bPs043 bRs043 bVs043 sas043 sbs043 As043 Ns043 cP0s043 cP1s043 cV0s043 EBs043 OAs043
        obtain ⟨cP0s0437, cP1s0437⟩ := cells2 bPs0437
        have cV0s0437 := cell_of_heap bVs0437 0
        refine hK.out _ _ ?_ (fun hHeld2 => ?_)
        · exact ⟨cP0s0437, cP1s0437, cV0s0437⟩
        clear hK K hHeld
        have hHeld := hHeld2
        clear hHeld2
        try simp only [AP]
        refine AnyK.tw 10 rfl ?_
        try simp only [AP]
        refine AnyK.last (by kernel_rfl) ?_
        simp only [List.drop_succ_cons, List.drop_zero]
        clear hHeld
        obtain ⟨cR0, cR1, cR2⟩ := cells3 bRs0437
        have fR := frozen_of_heap bRs0437
        have lR := heap_lt bRs0437
        clear OAlt OBlt
        go_wp2
        have hkz := setMany_kp (w.heap.size + 1) [.slice xA xa.length yA, .slice xB xb.length yB, .slice a4 kk d4] ws0437 0
        have hR := setMany_row [.slice xA xa.length yA, .slice xB xb.length yB, .slice a4 kk d4] bRs0437 rfl
        refine bodyPost_ret (results_cell_tmp rfl _ _ _ _ _ _ _ _ rfl rfl hR Try.underlying70 rfl (by kernel_rfl)) rfl ?_
        have OA3 := OAs0437.out.reads.kp hkz (Nat.le_refl _) (fun i e => .inl (by omega))
        have OB3 := OBs0437.out.reads.kp hkz (Nat.le_refl _) (fun i e => .inl (by omega))
        have AD := As0437.out.kp hkz (fun b hb e => OwnF.box As0437.out bRs0437 (by decide) (by rw [← e]; exact hb))
        have hz2 := hkz.size
        refine ⟨_, _, _, by rw [hfh.out]; rfl, New.one Ns0437.out hkz (by omega), ?_, ?_, ?_⟩
        · rw [if_pos hfh.out]; exact OA3.mono (by omega) hz2
        · rw [if_pos hfh.out]; exact OB3.mono (by omega) hz2
        · rw [if_pos hfh.out, hMh.out]; exact AD.reads.mono (by omega) (Nat.le_refl _)
    · go_simp
      have kA : New ws (ws.alloc (.cells #[] 3)) := (Kp.refl _ _).alloc _
      have yBs4 : ws.heap.size < (ws.alloc (.cells #[] 3)).heap.size := by simp
      have EBs4 := Lib.hid (OwnF.empty (α := Int) (n := 1) (enc := encI) ws 3 (base := ws.heap.size) (Nat.le_refl _))
      have bPs4 := heap_new kA bPs
      have bRs4 := heap_new kA bRs
      have bVs4 := heap_new kA bVs
      have sas4 := Lib.hid (sas.out.new (by omega) kA)
      have sbs4 := Lib.hid (sbs.out.new (by omega) kA)
      have As4 := Lib.hid (As.out.new kA)
      have Ns4 := Lib.hid (Ns.out.trans kA)
      generalize ws.alloc (.cells #[] 3) = ws4 at *
      generalize ws.heap.size = eB at *
      clear kA bPs bRs bVs sas sbs As Ns cP0s cP1s cV0s
      obtain ⟨cP0s4, cP1s4⟩ := cells2 bPs4
      have cV0s4 := cell_of_heap bVs4 0
      refine hK.out _ _ ?_ (fun hHeld2 => ?_)
      · exact ⟨cP0s4, cP1s4, cV0s4⟩
      clear hK K hHeld
      have hHeld := hHeld2
      clear hHeld2
      try simp only [AP]
      refine AnyK.step (i := 0) (by kernel_rfl) rfl (fun K hK => ?_)
      go_simp
      have kA : New ws4 (ws4.alloc (.cells #[] 3)) := (Kp.refl _ _).alloc _
      have yAs40 : ws4.heap.size < (ws4.alloc (.cells #[] 3)).heap.size := by simp
      have EAs40 := Lib.hid (OwnF.empty (α := Int) (n := 1) (enc := encI) ws4 3 (base := ws4.heap.size) (Nat.le_refl _))
      have bPs40 := heap_new kA bPs4
      have bRs40 := heap_new kA bRs4
      have bVs40 := heap_new kA bVs4
      have sas40 := Lib.hid (sas4.out.new (by omega) kA)
      have sbs40 := Lib.hid (sbs4.out.new (by omega) kA)
      have As40 := Lib.hid (As4.out.new kA)
      have Ns40 := Lib.hid (Ns4.out.trans kA)
      have EBs40 := Lib.hid (EBs4.out.new kA)
      generalize ws4.alloc (.cells #[] 3) = ws40 at *
      generalize ws4.heap.size = eA at *
      clear kA bPs4 bRs4 bVs4 sas4 sbs4 As4 Ns4 cP0s4 cP1s4 cV0s4 EBs4
      obtain ⟨cP0s40, cP1s40⟩ := cells2 bPs40
      have cV0s40 := cell_of_heap bVs40 0
      refine hK.out _ _ ?_ (fun hHeld2 => ?_)
      · exact ⟨cP0s40, cP1s40, cV0s40⟩
      clear hK K hHeld
      have hHeld := hHeld2
      clear hHeld2
      try simp only [AP]
      refine AnyK.step (i := 3) (by kernel_rfl) rfl (fun K hK => ?_)
      refine step_pushes rfl (.tmp 14) (.tmp 16) 34 rfl eA 3 _ _ Try.underlying34 LawF.infoI rfl (by decide) (.slice (some ⟨eA, 0, none⟩) 0 0) [] rfl EAs40.out _ xa rfl sas40.out (fun _ _ _ => rfl) ?_ ?_ ?_ ?_
      · have := hfl.out; simp; omega
      · have := hfl.out; simp; omega
      · omega
      intro vA ws403 hv hk ha
      have k1 : One eA ws40 ws403 := hk.mono fun k _ e => by simpa [Value.ownBlock] using e.symm
      have ys403 : ws40.heap.size ≤ ws403.heap.size := k1.size
      have bPs403 := k1.bo bPs40
      have bRs403 := k1.bo bRs40
      have bVs403 := k1.bo bVs40
      have sas403 := Lib.hid (sas40.out.kp k1 (by omega) (fun b e => .inr (by omega)))
      have sbs403 := Lib.hid (sbs40.out.kp k1 (by omega) (fun b e => .inr (by omega)))
      have As403 := Lib.hid (As40.out.kp hk (fun c e1 e2 => OwnF.apart As40.out EAs40.out (by decide) c e1 e2))
      have Ns403 := Lib.hid (New.one Ns40.out k1 (by omega))
      have EBs403 := Lib.hid (EBs40.out.kp k1 (fun b hb e => by simp [Value.ownBlock] at hb; omega))
      have OAs403 := Lib.hid (show OwnF 1 encI ws403 eA 3 vA xa by simpa using hv)
      obtain ⟨xA, yA, rfl, _⟩ := OAs403.out.reads.len
      have OAlt : ∀ b, (Value.slice xA xa.length yA).ownBlock = some b → (b = eA ∨ ws40.heap.size ≤ b) ∧ b < ws403.heap.size := fun b hb => ⟨ha.elim (fun h => .inl (by rw [h] at hb; simpa [Value.ownBlock] using hb.symm)) (fun h => .inr (by rw [h] at hb; simp at hb; omega)), (OAs403.out.lt b hb).2⟩
      clear hv hk k1 ha bPs40 bRs40 bVs40 sas40 sbs40 As40 Ns40 cP0s40 cP1s40 cV0s40 EBs40 EAs40
      obtain ⟨cP0s403, cP1s403⟩ := cells2 bPs403
      have cV0s403 := cell_of_heap bVs403 0
      refine hK.out _ _ ?_ (fun hHeld2 => ?_)
      · exact ⟨cP0s403, cP1s403, cV0s403⟩
      clear hK K hHeld
      have hHeld := hHeld2
      clear hHeld2
      try simp only [AP]
      refine AnyK.step (i := 7) (by kernel_rfl) rfl (fun K hK => ?_)
      refine step_pushes rfl (.tmp 18) (.tmp 20) 34 rfl eB 3 _ _ Try.underlying34 LawF.infoI rfl (by decide) (.slice (some ⟨eB, 0, none⟩) 0 0) [] rfl EBs403.out _ xb rfl sbs403.out (fun _ _ _ => rfl) ?_ ?_ ?_ ?_
      · have := hfl.out; simp; omega
      · have := hfl.out; simp; omega
      · omega
      intro vB ws4037 hv hk ha
      have k1 : One eB ws403 ws4037 := hk.mono fun k _ e => by simpa [Value.ownBlock] using e.symm
      have ys4037 : ws403.heap.size ≤ ws4037.heap.size := k1.size
      have bPs4037 := k1.bo bPs403
      have bRs4037 := k1.bo bRs403
      have bVs4037 := k1.bo bVs403
      have sas4037 := Lib.hid (sas403.out.kp k1 (by omega) (fun b e => .inr (by omega)))
      have sbs4037 := Lib.hid (sbs403.out.kp k1 (by omega) (fun b e => .inr (by omega)))
      have As4037 := Lib.hid (As403.out.kp hk (fun c e1 e2 => OwnF.apart As403.out EBs403.out (by decide) c e1 e2))
      have Ns4037 := Lib.hid (New.one Ns403.out k1 (by omega))
      have OAs4037 := Lib.hid (OAs403.out.kp k1 (fun b hb e => by have := OAlt b hb; omega))
      have OBs4037 := Lib.hid (show OwnF 1 encI ws4037 eB 3 vB xb by simpa using hv)
      obtain ⟨xB, yB, rfl, _⟩ := OBs4037.out.reads.len
      have OBlt : ∀ b, (Value.slice xB xb.length yB).ownBlock = some b → (b = eB ∨ ws403.heap.size ≤ b) ∧ b < ws4037.heap.size := fun b hb => ⟨ha.elim (fun h => .inl (by rw [h] at hb; simpa [Value.ownBlock] using hb.symm)) (fun h => .inr (by rw [h] at hb; simp at hb; omega)), (OBs4037.out.lt b hb).2⟩
      clear hv hk k1 ha bPs403 bRs403 bVs403 sas403 sbs403 As403 Ns403 cP0s403 cP1s403 cV0s403 EBs403 OAs403
      obtain ⟨cP0s4037, cP1s4037⟩ := cells2 bPs4037
      have cV0s4037 := cell_of_heap bVs4037 0
      refine hK.out _ _ ?_ (fun hHeld2 => ?_)
      · exact ⟨cP0s4037, cP1s4037, cV0s4037⟩
      clear hK K hHeld
      have hHeld := hHeld2
      clear hHeld2
      try simp only [AP]
      refine AnyK.tw 10 rfl ?_
      try simp only [AP]
      refine AnyK.last (by kernel_rfl) ?_
      simp only [List.drop_succ_cons, List.drop_zero]
      clear hHeld
      obtain ⟨cR0, cR1, cR2⟩ := cells3 bRs4037
      have fR := frozen_of_heap bRs4037
      have lR := heap_lt bRs4037
      clear OAlt OBlt
      go_wp2
      have hkz := setMany_kp (w.heap.size + 1) [.slice xA xa.length yA, .slice xB xb.length yB, .slice a4 kk d4] ws4037 0
      have hR := setMany_row [.slice xA xa.length yA, .slice xB xb.length yB, .slice a4 kk d4] bRs4037 rfl
      refine bodyPost_ret (results_cell_tmp rfl _ _ _ _ _ _ _ _ rfl rfl hR Try.underlying70 rfl (by kernel_rfl)) rfl ?_
      have OA3 := OAs4037.out.reads.kp hkz (Nat.le_refl _) (fun i e => .inl (by omega))
      have OB3 := OBs4037.out.reads.kp hkz (Nat.le_refl _) (fun i e => .inl (by omega))
      have AD := As4037.out.kp hkz (fun b hb e => OwnF.box As4037.out bRs4037 (by decide) (by rw [← e]; exact hb))
      have hz2 := hkz.size
      refine ⟨_, _, _, by rw [hfh.out]; rfl, New.one Ns4037.out hkz (by omega), ?_, ?_, ?_⟩
      · rw [if_pos hfh.out]; exact OA3.mono (by omega) hz2
      · rw [if_pos hfh.out]; exact OB3.mono (by omega) hz2
      · rw [if_pos hfh.out, hMh.out]; exact AD.reads.mono (by omega) (Nat.le_refl _)
end Go.Proofs.Ytckikiaockkmbaa.CmpO
