/- CompileProgram by impl. Conditions: the blocks that lead to the program are old. -/
import Derived.Test.YtckikiaockkmbaaUCmpL
import Derived.Test.YtckikiaockkmbaaUEvS
import Derived.Test.YtckikiaockkmbaaUCmpR
import Derived.Test.YtckikiaockkmbaaUP4
import Derived.Test.YtckikiaockkmbaaUP2
import Derived.Test.YtckikiaockkmbaaUP1
namespace Go.Proofs.Ytckikiaockkmbaa.CmpN
open Go.RowKit Kit Val CmpP CmpI CmpJ CmpL
set_option linter.unusedVariables false
theorem fine_len {xa xb : List Int} {l : List St} (h : fine xa xb l = true) : xa.length ≤ 12 ∧ xb.length ≤ 2 := by
  simp only [fine, progB, declB, Bool.and_eq_true, decide_eq_true_eq] at h
  omega
/-- what the compiler has made at p -/
def Made (w : World) (p : Nat) (l : List St) (w' : World) : Prop := ∃ (ul uf : Value) (n : Int), w.heap.size ≤ p ∧ w'.heap[p]? = some (.cells #[ul, uf, .int .i64 (-1), .int .i64 n] 111 (0, 0)) ∧ OwnF 5 encN w' w.heap.size 76 ul (csts l 0 0 ++ [halt])
/-- what compiled answers -/
def GotC (xa xb : List Int) (l : List St) (w : World) (e : Ending) (w' : World) : Prop := New w w' ∧ ((progB xa xb l = false ∧ e = .returned (.tuple #[.pointer none, .bool false])) ∨ progB xa xb l = true ∧ ∃ p, e = .returned (.tuple #[.pointer (some ⟨p, 0, none⟩), .bool (fine xa xb l)]) ∧ Made w p l w')
set_option maxHeartbeats 8000000 in
set_option maxRecDepth 100000 in
theorem comp {w : World} {lo hi : Nat} {ta tb tc : Value} {xa xb : List Int} {l : List St} (sa : IntsR w lo hi ta xa) (sb : IntsR w lo hi tb xb) (s : StsR w lo hi tc l) (h1 : hi ≤ w.heap.size) :
    Calls Try.prog 86 #[.agg #[ta, tb, tc]] w (GotC xa xb l w) := by
  obtain ⟨a1, d1, rfl, _⟩ := sa.len
  obtain ⟨a2, d2, rfl, _⟩ := sb.len
  obtain ⟨a3, d3, rfl, _⟩ := s.len
  have N0 : New w (w.alloc (.cells #[.slice a1 xa.length d1, .slice a2 xb.length d2, .slice a3 l.length d3] 37)) := (Kp.refl _ _).alloc _
  have bP_0 := alloc_heap w (.cells #[.slice a1 xa.length d1, .slice a2 xb.length d2, .slice a3 l.length d3] 37)
  have hsa := Lib.hid (sa.new h1 N0)
  have hsb := Lib.hid (sb.new h1 N0)
  have hss := Lib.hid (s.new h1 N0)
  have z0 := N0.size
  clear sa sb s
  go_enter Try.func86, Try.ntmps86
  go_upto_region 1 with fail
  generalize (w.alloc (.cells #[.slice a1 xa.length d1, .slice a2 xb.length d2, .slice a3 l.length d3] 37)) = w0 at *
  obtain ⟨cP0, cP1, cP2⟩ := cells3 bP_0
  go_wp2_with fail
  refine (PgmV.implP hsa.out hsb.out hss.out (by omega)).mono ?_
  rintro e w1 ⟨rfl, hn1⟩
  have z1 := hn1.size
  have bP_1 := heap_new hn1 bP_0
  have hs1 := Lib.hid (hss.out.new (by omega) hn1)
  have N1 := N0.trans hn1
  clear cP0 cP1 cP2 hn1 N0 hsa hsb hss bP_0
  cases ht : progB xa xb l
  · have hth := Lib.hid ht
    have N1h := Lib.hid N1
    clear ht N1
    go_wp2
    refine bodyPost_ret (EvS.results_tmp2 rfl _ _) rfl ?_
    exact ⟨N1h.out, .inl ⟨hth.out, rfl⟩⟩
  · have hth := Lib.hid ht
    have hbl := Lib.hid (show blB xa.length xb.length l 5 = true by simp only [progB, Bool.and_eq_true] at ht; exact ht.1.2)
    have hsz := progB_size ht
    clear ht
    have kA : New w1 (w1.alloc (.cells #[.slice none 0 0, .slice none 0 0, .int .i64 0, .int .i64 0] 111)) := (Kp.refl _ _).alloc _
    have bC := alloc_heap w1 (.cells #[.slice none 0 0, .slice none 0 0, .int .i64 0, .int .i64 0] 111)
    have bP_2 := heap_new kA bP_1
    have hs2 := Lib.hid (hs1.out.new (by omega) kA)
    have N2 := N1.trans kA
    have z2 := kA.size
    go_upto_region 4 with fail
    generalize w1.alloc (.cells #[.slice none 0 0, .slice none 0 0, .int .i64 0, .int .i64 0] 111) = w2 at *
    have C0 := Lib.hid (show CI w2 w1.heap.size w1.heap.size (.slice none 0 0) (.slice none 0 0) [] (.slice none 0 0) (.slice none 0 0) 0 0 w2 from ⟨[], Kp.refl _ _, bC, OwnF.nil _ _ _, OwnF.nil _ _ _, rfl, Grew.refl _ _, Grew.refl _ _⟩)
    have cP2 := cell_of_heap bP_2 2
    have zc := heap_lt bC
    clear bC kA bP_1 hs1 N1
    go_wp2_with fail
    refine (CmpL.stmts lo hi w1.heap.size xa.length xb.length (by omega) (St.sizes l + 1) w2 w1.heap.size _ _ [] 0 0 _ l 0 5 (Nat.lt_succ_self _) hbl.out (by omega) z2 (Nat.le_refl _) C0.out hs2.out (by simp only [List.length_nil]; omega) (Int.le_refl _) (by omega)).mono ?_
    rintro e w3 ⟨rfl, ul, uf, o3, n3, C, m0, m1⟩
    have C3 := Lib.hid C
    have z3 := C.size
    clear C cP2
    rw [show ([] : List Ins) ++ csts l ([] : List Ins).length ((0 : Nat) : Int) = csts l 0 0 from rfl] at C3
    have hcl := csts_le l 0 0
    obtain ⟨M, hM⟩ : ∃ M, csts l 0 0 = M := ⟨_, rfl⟩
    rw [hM] at C3 hcl
    have hMh := Lib.hid hM
    clear hM
    have cQ2 := cell_of_heap C3.out.cells 2
    have fQ := frozen_of_heap C3.out.cells
    have lQ := heap_lt C3.out.cells
    have C4 := Lib.hid (C3.out.num (j := 2) (o' := -1) (n' := n3) (v := .int .i64 (-1)) rfl)
    have z4 : w3.heap.size ≤ (w3.setCell ⟨w1.heap.size, 2, none⟩ (.int .i64 (-1))).heap.size := by simp
    go_upto_region 6 with fail
    generalize w3.setCell ⟨w1.heap.size, 2, none⟩ (.int .i64 (-1)) = w4 at *
    clear cQ2 fQ lQ C3
    go_wp2_with fail
    refine (CmpI.emit 13 [] C4.out (bx := w4.heap.size) (by omega) (by omega) (OwnF.nil _ _ _) (by omega) (Nat.le_refl _) (fun b hb => (C4.out.low.2 b hb).2) (by simp) (by omega)).mono ?_
    rintro e w5 ⟨rfl, ul5, uf5, C⟩
    have C5 := Lib.hid C
    have z5 := C.size
    clear C C4
    obtain ⟨⟨p5, q5, rfl⟩, pf, qf, rfl⟩ := C5.out.lens
    have cQ0 := cell_of_heap C5.out.cells 0
    have hL : (M ++ [insOf 13 []]).length = M.length + 1 := by simp
    rw [hL] at cQ0 C5
    have hfine := Lib.hid (show decide ((M.length : Int) + 1 ≤ 400) = fine xa xb l by rw [fine, hth.out, Bool.true_and, hMh.out]; congr 1; exact propext ⟨fun h => by omega, fun h => by omega⟩)
    clear hL
    go_wp2_with fail
    go_quiet (fail)
    go_wp2
    refine bodyPost_ret (EvS.results_tmp2 rfl _ _) rfl ?_
    obtain ⟨F, K, P, A, B, _, _, _⟩ := C5.out.new (drewN_kp _ _ (Kp.refl _ _))
    exact ⟨New.on N2 K (fun c hc => by simp [Value.ownBlock] at hc; omega), .inr ⟨hth.out, _, by rw [← hfine.out]; rfl, _, _, _, by omega, P, by rw [hMh.out]; exact A.mono (by omega)⟩⟩
/-- what CompileProgram answers -/
def GotK (xa xb : List Int) (l : List St) (w : World) (e : Ending) (w' : World) : Prop := ∃ va vb vl, e = .returned (.tuple #[.agg #[va, vb, vl], .bool (fine xa xb l)]) ∧ New w w' ∧ IntsR w' w.heap.size w'.heap.size va (if fine xa xb l = true then xa else []) ∧ IntsR w' w.heap.size w'.heap.size vb (if fine xa xb l = true then xb else []) ∧ InssR w' w.heap.size w'.heap.size vl (if fine xa xb l = true then csts l 0 0 ++ [halt] else [])
set_option maxHeartbeats 8000000 in
set_option maxRecDepth 100000 in
theorem implC {w : World} {lo hi : Nat} {ta tb tc : Value} {xa xb : List Int} {l : List St} (sa : IntsR w lo hi ta xa) (sb : IntsR w lo hi tb xb) (s : StsR w lo hi tc l) (h1 : hi ≤ w.heap.size) :
    Calls Try.prog 39 #[.agg #[ta, tb, tc]] w (GotK xa xb l w) := by
  obtain ⟨a1, d1, rfl, _⟩ := sa.len
  obtain ⟨a2, d2, rfl, _⟩ := sb.len
  obtain ⟨a3, d3, rfl, _⟩ := s.len
  have N0 : New w ((w.alloc (.cells #[.slice a1 xa.length d1, .slice a2 xb.length d2, .slice a3 l.length d3] 37)).alloc (.cells #[.slice none 0 0, .slice none 0 0, .slice none 0 0] 70)) := ((Kp.refl _ _).alloc _).alloc _
  have bP_0 : ((w.alloc (.cells #[.slice a1 xa.length d1, .slice a2 xb.length d2, .slice a3 l.length d3] 37)).alloc (.cells #[.slice none 0 0, .slice none 0 0, .slice none 0 0] 70)).heap[w.heap.size]? = some (.cells #[.slice a1 xa.length d1, .slice a2 xb.length d2, .slice a3 l.length d3] 37) := heap_old (alloc_heap _ _)
  have bR_0 : ((w.alloc (.cells #[.slice a1 xa.length d1, .slice a2 xb.length d2, .slice a3 l.length d3] 37)).alloc (.cells #[.slice none 0 0, .slice none 0 0, .slice none 0 0] 70)).heap[w.heap.size + 1]? = some (.cells #[.slice none 0 0, .slice none 0 0, .slice none 0 0] 70) := heap_at (by simp)
  have z0 : w.heap.size + 1 < ((w.alloc (.cells #[.slice a1 xa.length d1, .slice a2 xb.length d2, .slice a3 l.length d3] 37)).alloc (.cells #[.slice none 0 0, .slice none 0 0, .slice none 0 0] 70)).heap.size := by simp
  have hsa := Lib.hid (sa.new h1 N0)
  have hsb := Lib.hid (sb.new h1 N0)
  have hss := Lib.hid (s.new h1 N0)
  clear sa sb s
  go_enter Try.func39, Try.ntmps39
  go_upto_region 1 with fail
  generalize ((w.alloc (.cells #[.slice a1 xa.length d1, .slice a2 xb.length d2, .slice a3 l.length d3] 37)).alloc (.cells #[.slice none 0 0, .slice none 0 0, .slice none 0 0] 70)) = w0 at *
  obtain ⟨cP0, cP1, cP2⟩ := cells3 bP_0
  go_wp2_with fail
  refine (comp hsa.out hsb.out hss.out (by omega)).mono ?_
  rintro e w1 ⟨hn1, hcase⟩
  have z1 := hn1.size
  have bP_1 := heap_new hn1 bP_0
  have bR_1 := heap_new hn1 bR_0
  have sa1 := Lib.hid (hsa.out.new (by omega) hn1)
  have sb1 := Lib.hid (hsb.out.new (by omega) hn1)
  have N1 := N0.trans hn1
  clear cP0 cP1 cP2 hn1 N0 hsa hsb hss bP_0 bR_0
  rcases hcase with ⟨hpb, rfl⟩ | ⟨hpb, p, rfl, ul, uf, n, hp, P, A⟩
  · have hf := Lib.hid (show fine xa xb l = false by rw [fine, hpb]; rfl)
    have N1h := Lib.hid N1
    clear hpb N1
    obtain ⟨cR0, cR1, cR2⟩ := cells3 bR_1
    have fR := frozen_of_heap bR_1
    have lR := heap_lt bR_1
    go_wp2
    have hkz := setMany_kp (w.heap.size + 1) [.slice none 0 0, .slice none 0 0, .slice none 0 0] w1 0
    have zz := setMany_size (w.heap.size + 1) [.slice none 0 0, .slice none 0 0, .slice none 0 0] w1 0
    have hR := setMany_row [.slice none 0 0, .slice none 0 0, .slice none 0 0] bR_1 rfl
    refine bodyPost_ret (results_cell_tmp rfl _ _ _ _ _ _ _ _ rfl rfl hR Try.underlying70 rfl (by kernel_rfl)) rfl ?_
    exact ⟨_, _, _, by rw [hf.out]; rfl, New.one N1h.out hkz (by omega), by rw [hf.out]; exact .nil _ _, by rw [hf.out]; exact .nil _ _, by rw [hf.out]; exact .nil _ _⟩
  · obtain ⟨a4, d4, rfl, _⟩ := A.reads.len
    have A1 := Lib.hid A
    have P1 := Lib.hid P
    have hpbh := Lib.hid hpb
    have N1h := Lib.hid N1
    clear hpb N1 A P
    cases hf : fine xa xb l
    · have hfh := Lib.hid hf
      clear hf
      obtain ⟨cR0, cR1, cR2⟩ := cells3 bR_1
      have fR := frozen_of_heap bR_1
      have lR := heap_lt bR_1
      go_wp2
      have hkz := setMany_kp (w.heap.size + 1) [.slice none 0 0, .slice none 0 0, .slice none 0 0] w1 0
      have hR := setMany_row [.slice none 0 0, .slice none 0 0, .slice none 0 0] bR_1 rfl
      refine bodyPost_ret (results_cell_tmp rfl _ _ _ _ _ _ _ _ rfl rfl hR Try.underlying70 rfl (by kernel_rfl)) rfl ?_
      exact ⟨_, _, _, by rw [hfh.out]; rfl, New.one N1h.out hkz (by omega), by rw [hfh.out]; exact .nil _ _, by rw [hfh.out]; exact .nil _ _, by rw [hfh.out]; exact .nil _ _⟩
    · have hfl := Lib.hid (fine_len hf)
      have hfh := Lib.hid hf
      clear hf
      obtain ⟨M, hM⟩ : ∃ M, csts l 0 0 ++ [halt] = M := ⟨_, rfl⟩
      rw [hM] at A1 P1
      have hMh := Lib.hid hM
      obtain ⟨kk, hkk⟩ : ∃ kk, M.length = kk := ⟨_, rfl⟩
      rw [hkk] at A1 P1
      clear hM hkk
      have bPa := bP_1
      obtain ⟨cPa0, cPa1⟩ := cells2 bPa
      have cQa := cell_of_heap P1.out 0
      go_wp2_with fail
      refine wp_region_tail (k := 11) (S := fun w' => w'.cell? ⟨w.heap.size, 0, none⟩ = some (.slice a1 xa.length d1) ∧ w'.cell? ⟨w.heap.size, 1, none⟩ = some (.slice a2 xb.length d2) ∧ w'.cell? ⟨p, 0, none⟩ = some (.slice a4 kk d4)) (by kernel_rfl) ?_ (fun hHeld => ?_)
      · exact ⟨cPa0, cPa1, cQa⟩
      have kd : New w1 w1.drew := (Kp.refl _ _).drew
      have N2 := Lib.hid (N1h.out.trans kd)
      have bPb := heap_new kd bPa
      have bRb := heap_new kd bR_1
      have Pb := Lib.hid (heap_new kd P1.out)
      have Ab := Lib.hid (A1.out.new kd)
      have sab := Lib.hid (sa1.out.new (by omega) kd)
      have sbb := Lib.hid (sb1.out.new (by omega) kd)
      have zb := kd.size
      generalize w1.drew = wb at *
      clear kd N1h bPa bP_1 bR_1 P1 A1 sa1 sb1 cPa0 cPa1 cQa
      obtain ⟨cPb0, cPb1⟩ := cells2 bPb
      have cQb := cell_of_heap Pb.out 0
      refine AnyK.tw 0 rfl ?_
      try simp only [AP]
      refine AnyK.tk 1 rfl ?_
      try simp only [AP]
      refine AnyK.tw 3 rfl ?_
      try simp only [AP]
      refine AnyK.tk 4 rfl ?_
      try simp only [AP]
      refine AnyK.tw 6 rfl ?_
      try simp only [AP]
      refine AnyK.tw 7 rfl ?_
      try simp only [AP]
      refine AnyK.tw 8 rfl ?_
      try simp only [AP]
      refine AnyK.tk 9 rfl ?_
      try simp only [AP]
      refine AnyK.step (i := 2) (by kernel_rfl) rfl (fun K hK => ?_)
      go_simp
      refine (AppM.cloneF wb _ _ _ _ sab.out (by omega) (by have := hfl.out; omega)).mono ?_
      rintro e wc ⟨va, rfl, kd, Oa⟩
      have N3 := Lib.hid (N2.out.trans kd)
      have bPc := heap_new kd bPb
      have bRc := heap_new kd bRb
      have Pc := Lib.hid (heap_new kd Pb.out)
      have Ac := Lib.hid (Ab.out.new kd)
      have zc := kd.size
      obtain ⟨xa1, ya1, rfl, _⟩ := Oa.reads.len
      have sbc := Lib.hid (sbb.out.new (by omega) kd)
      have OA := Lib.hid Oa
      clear Oa
      clear kd bPb bRb Pb Ab cPb0 cPb1 cQb
      obtain ⟨cPc0, cPc1⟩ := cells2 bPc
      have cQc := cell_of_heap Pc.out 0
      refine hK.out _ _ ?_ (fun hHeld2 => ?_)
      · exact ⟨cPc0, cPc1, cQc⟩
      clear hK K hHeld
      have hHeld := hHeld2
      clear hHeld2
      try simp only [AP]
      refine AnyK.step (i := 5) (by kernel_rfl) rfl (fun K hK => ?_)
      go_simp
      refine (AppM.cloneF wc _ _ _ _ sbc.out (by omega) (by have := hfl.out; omega)).mono ?_
      rintro e wd ⟨vb, rfl, kd, Ob⟩
      have N4 := Lib.hid (N3.out.trans kd)
      have bPd := heap_new kd bPc
      have bRd := heap_new kd bRc
      have Pd := Lib.hid (heap_new kd Pc.out)
      have Ad := Lib.hid (Ac.out.new kd)
      have zd := kd.size
      obtain ⟨xb1, yb1, rfl, _⟩ := Ob.reads.len
      have OA2 := Lib.hid (OA.out.new kd)
      have OB2 := Lib.hid Ob
      clear Ob OA
      clear kd bPc bRc Pc Ac cPc0 cPc1 cQc
      obtain ⟨cPd0, cPd1⟩ := cells2 bPd
      have cQd := cell_of_heap Pd.out 0
      refine hK.out _ _ ?_ (fun hHeld2 => ?_)
      · exact ⟨cPd0, cPd1, cQd⟩
      clear hK K hHeld
      have hHeld := hHeld2
      clear hHeld2
      try simp only [AP]
      refine AnyK.tw 10 rfl ?_
      try simp only [AP]
      refine AnyK.last (by kernel_rfl) ?_
      simp only [List.drop_succ_cons, List.drop_zero]
      clear hHeld
      obtain ⟨cR0, cR1, cR2⟩ := cells3 bRd
      have fR := frozen_of_heap bRd
      have lR := heap_lt bRd
      go_wp2
      have hkz := setMany_kp (w.heap.size + 1) [.slice xa1 xa.length ya1, .slice xb1 xb.length yb1, .slice a4 kk d4] wd 0
      have zz := setMany_size (w.heap.size + 1) [.slice xa1 xa.length ya1, .slice xb1 xb.length yb1, .slice a4 kk d4] wd 0
      have hR := setMany_row [.slice xa1 xa.length ya1, .slice xb1 xb.length yb1, .slice a4 kk d4] bRd rfl
      refine bodyPost_ret (results_cell_tmp rfl _ _ _ _ _ _ _ _ rfl rfl hR Try.underlying70 rfl (by kernel_rfl)) rfl ?_
      have OA3 := OA2.out.reads.kp hkz (Nat.le_refl _) (fun i e => .inl (by omega))
      have OB3 := OB2.out.reads.kp hkz (Nat.le_refl _) (fun i e => .inl (by omega))
      have hlR := Lib.hid (Ad.out.lt)
      have AD := Ad.out.kp hkz (fun b hb e => OwnF.box Ad.out bRd (by decide) (by rw [← e]; exact hb))
      have hz2 := hkz.size
      refine ⟨_, _, _, by rw [hfh.out]; rfl, New.one N4.out hkz (by omega), ?_, ?_, ?_⟩
      · rw [if_pos hfh.out]; exact OA3.mono (by omega) hz2
      · rw [if_pos hfh.out]; exact OB3.mono (by omega) hz2
      · rw [if_pos hfh.out, hMh.out]; exact AD.reads.mono (by omega) (Nat.le_refl _)
end Go.Proofs.Ytckikiaockkmbaa.CmpN
