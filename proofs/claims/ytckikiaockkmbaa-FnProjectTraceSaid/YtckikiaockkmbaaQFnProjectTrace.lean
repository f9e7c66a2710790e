/- FnProjectTrace: for every input the law returns true, and the arguments read as they did. No conditions. -/
import Derived.Test.YtckikiaockkmbaaRows
import Derived.Test.YtckikiaockkmbaaQDrawO
import Derived.Test.YtckikiaockkmbaaQLawK
import Derived.Test.YtckikiaockkmbaaQEvI
import Derived.Test.YtckikiaockkmbaaQP1
import Derived.WalkKit
import Derived.ProofKit
import Derived.OpenShut
import Derived.ShutString
import Derived.ChangeOld
import Derived.Below
namespace Go.Proofs.Ytckikiaockkmbaa.fnProjectTrace
open Go.ChangeShapes Go.WideShapes Go.ChangeAt Go.RowKit Kit MarkC
open Go.ChangeMaps (open_string shut_string)
set_option linter.unusedVariables false
theorem own : ownKnob Try.prog.godebug = none := by kernel_rfl
theorem laidOut : laidOutB Try.prog = true := by kernel_rfl
set_option maxHeartbeats 8000000 in
set_option maxRecDepth 100000 in
theorem walk (a0 : Option Addr) (l0 c0 : Nat) (a1 : Option Addr) (l1 c1 : Nat) (w : World) (s0 : Kit.Src w a0 l0 c0) (s1 : Kit.Src w a1 l1 c1) :
    Calls Try.prog 3 #[.slice a0 l0 c0, .slice a1 l1 c1] w fun e w' => e = .returned (.bool true) ∧ Below w.heap.size w w' := by
  by_cases hl : 1048576 < l0
  · go_enter Try.func3, Try.ntmps3
    go_wp2
    go_ret
    exact ⟨rfl, Below.refl _ _⟩
  have hl1 : ¬ 1048576 < l0 := hl
  clear hl
  by_cases hl : 1048576 < l1
  · go_enter Try.func3, Try.ntmps3
    go_wp2
    go_ret
    exact ⟨rfl, Below.refl _ _⟩
  · go_enter Try.func3, Try.ntmps3
    go_wp2_with fail
    refine (DrawO.drawProj _ a0 l0 c0 s0).mono ?_
    rintro e w1 ⟨ev, xs, rfl, N1, hE, hl6⟩
    obtain ⟨aE, dE, rfl, hn63⟩ := hE.reads.len
    have oE_1 := Lib.hid hE
    have hcap := LawK.cap_r hE.reads
    clear hE
    obtain ⟨fs, hfs⟩ : ∃ fs, xs.filter Proj.keep = fs := ⟨_, rfl⟩
    have hfl : fs.length ≤ xs.length := by rw [← hfs]; exact List.length_filter_le _ _
    have hid := Lib.hid (show fs.filter Proj.keep = fs by rw [← hfs]; exact LawK.proj_idem _)
    have hfsh := Lib.hid hfs
    clear hfs
    go_wp2_with fail
    refine (Proj.implProj w1 _ _ _ _ oE_1.out.reads (Nat.le_refl _) (by omega)).mono ?_
    rintro e w2 ⟨vX, rfl, hn2, hX⟩
    have z2 := hn2.size
    have oE_2 := Lib.hid (oE_1.out.new hn2)
    have N2 : New w w2 := N1.trans hn2
    clear oE_1 N1 hn2
    rw [hfsh.out] at hX
    obtain ⟨pX, qX, rfl, _⟩ := hX.reads.len
    have oX_2 := Lib.hid hX
    clear hX
    go_wp2_with fail
    refine (Proj.specProj w2 _ _ _ _ oE_2.out.reads (Nat.le_refl _) (by omega)).mono ?_
    rintro e w3 ⟨vY, rfl, hn3, hY⟩
    have z3 := hn3.size
    have oE_3 := Lib.hid (oE_2.out.new hn3)
    have oX_3 := Lib.hid (oX_2.out.new hn3)
    have N3 : New w w3 := N2.trans hn3
    clear oE_2 oX_2 N2 hn3
    rw [hfsh.out] at hY
    obtain ⟨pY, qY, rfl, _⟩ := hY.reads.len
    have oY_3 := Lib.hid hY
    clear hY
    go_wp2_with fail
    refine (Diff.implSame w3 _ _ _ _ _ _ fs fs oX_3.out.reads oY_3.out.reads).mono ?_
    rintro e w4 ⟨rfl, hn4⟩
    have z4 := hn4.size
    have oE_4 := Lib.hid (oE_3.out.new hn4)
    have oX_4 := Lib.hid (oX_3.out.new hn4)
    have oY_4 := Lib.hid (oY_3.out.new hn4)
    have N4 : New w w4 := N3.trans hn4
    clear oE_3 oX_3 oY_3 N3 hn4
    have hs : decide (fs = fs) = true := by simp
    rw [hs]
    clear hs
    clear oY_4
    go_wp2_with fail
    refine (Proj.implProj w4 _ _ _ _ oX_4.out.reads (Nat.le_refl _) (by omega)).mono ?_
    rintro e w5 ⟨vZ, rfl, hn5, hZ⟩
    have z5 := hn5.size
    have oE_5 := Lib.hid (oE_4.out.new hn5)
    have oX_5 := Lib.hid (oX_4.out.new hn5)
    have N5 : New w w5 := N4.trans hn5
    clear oE_4 oX_4 N4 hn5
    rw [hid.out] at hZ
    obtain ⟨pZ, qZ, rfl, _⟩ := hZ.reads.len
    have oZ_5 := Lib.hid hZ
    clear hZ
    go_wp2_with fail
    refine (Diff.implSame w5 _ _ _ _ _ _ fs fs oZ_5.out.reads oX_5.out.reads).mono ?_
    rintro e w6 ⟨rfl, hn6⟩
    have z6 := hn6.size
    have oE_6 := Lib.hid (oE_5.out.new hn6)
    have oX_6 := Lib.hid (oX_5.out.new hn6)
    have oZ_6 := Lib.hid (oZ_5.out.new hn6)
    have N6 : New w w6 := N5.trans hn6
    clear oE_5 oX_5 oZ_5 N5 hn6
    have hs : decide (fs = fs) = true := by simp
    rw [hs]
    clear hs
    clear oZ_6
    obtain ⟨kk, hkk⟩ : ∃ kk, l1 % (xs.length + 1) = kk := ⟨_, rfl⟩
    have hkl : kk ≤ xs.length := hkk ▸ Nat.le_of_lt_succ (Nat.mod_lt l1 (Nat.succ_pos _))
    have hw : (l1 : Int) % ((xs.length : Int) + 1) = (kk : Int) := by rw [← hkk]; simp
    clear hkk
    have hkd : kk ≤ dE := Nat.le_trans hkl hcap
    obtain ⟨fa, hfa⟩ : ∃ fa, (xs.take kk).filter Proj.keep = fa := ⟨_, rfl⟩
    obtain ⟨fb, hfb⟩ : ∃ fb, (xs.drop kk).filter Proj.keep = fb := ⟨_, rfl⟩
    have hab := Lib.hid (show fa ++ fb = fs by rw [← hfa, ← hfb, ← hfsh.out]; exact LawK.proj_parts _ _)
    have hal : fa.length ≤ xs.length := by rw [← hfa]; exact Nat.le_trans (List.length_filter_le _ _) (by rw [List.length_take]; omega)
    have hbl : fb.length ≤ xs.length := by rw [← hfb]; exact Nat.le_trans (List.length_filter_le _ _) (by rw [List.length_drop]; omega)
    have hfah := Lib.hid hfa
    have hfbh := Lib.hid hfb
    clear hfa hfb
    go_upto_region 8 with fail
    rw [hw]
    clear hw
    go_wp2_with fail
    refine (Proj.implProj w6 _ _ _ _ (DrawO.take_r oE_6.out.reads kk hkl) (Nat.le_refl _) (by rw [List.length_take]; omega)).mono ?_
    rintro e w7 ⟨vA, rfl, hn7, hA⟩
    have z7 := hn7.size
    have oE_7 := Lib.hid (oE_6.out.new hn7)
    have oX_7 := Lib.hid (oX_6.out.new hn7)
    have N7 : New w w7 := N6.trans hn7
    clear oE_6 oX_6 N6 hn7
    rw [hfah.out] at hA
    obtain ⟨pA, qA, rfl, _⟩ := hA.reads.len
    have oA_7 := Lib.hid hA
    clear hA
    by_cases hdk : dE = kk
    · subst hdk
      clear hkd
      go_wp2_with fail
      refine (Proj.implProj w7 _ _ _ _ (LawK.from_eq oE_7.out.reads hkl) (Nat.le_refl _) (by rw [List.length_drop]; omega)).mono ?_
      rintro e w8 ⟨vB, rfl, hn8, hB⟩
      have z8 := hn8.size
      have oE_8 := Lib.hid (oE_7.out.new hn8)
      have oX_8 := Lib.hid (oX_7.out.new hn8)
      have oA_8 := Lib.hid (oA_7.out.new hn8)
      have N8 : New w w8 := N7.trans hn8
      clear oE_7 oX_7 oA_7 N7 hn8
      rw [hfbh.out] at hB
      obtain ⟨pB, qB, rfl, _⟩ := hB.reads.len
      have oB_8 := Lib.hid hB
      clear hB
      have kA : New w8 (w8.alloc (.cells #[] 32)) := (Kp.refl _ _).alloc _
      have hO := Lib.hid (OwnF.empty (α := Ev) (n := 2) (enc := encE) w8 32 (base := w8.heap.size) (Nat.le_refl _))
      have oA := Lib.hid (oA_8.out.new kA)
      have oB := Lib.hid (oB_8.out.new kA)
      have oX := Lib.hid (oX_8.out.new kA)
      have ltB := Lib.hid (fun c e => (oB_8.out.lt c e).2)
      have ltX := Lib.hid (fun c e => (oX_8.out.lt c e).2)
      have NA := Lib.hid (N8.trans kA)
      have zN := N8.size
      have zA := kA.size
      obtain ⟨bz, hbz⟩ : ∃ b, w8.heap.size = b := ⟨_, rfl⟩
      rw [hbz] at hO ltB ltX
      have hbz1 : bz ≤ w8.heap.size := Nat.le_of_eq hbz.symm
      have hbz2 : w8.heap.size ≤ bz := Nat.le_of_eq hbz
      have hbzh := Lib.hid hbz
      clear hbz oA_8 oB_8 oX_8 oE_8 N8 kA
      go_wp2_with (at_builtin; refine wpList_pushesN rfl _ _ 23 rfl bz 32 _ 16 Try.underlying23 EvI.infoE rfl (by decide) _ [] rfl (by rw [hbzh.out]; exact hO.out) _ fa rfl oA.out.reads (fun q _ => EvI.oneE q) ?ca1 ?cb1 ?cc1 ?_)
      case ca1 => first | omega | (simp; omega)
      case cb1 => first | omega | (simp; omega)
      case cc1 => omega
      intro v1 u1 hv1 hk1 ha1
      have hown : ∀ b, (Value.slice (some ⟨w8.heap.size, 0, none⟩) 0 0).ownBlock = some b → b = w8.heap.size := fun b e => by simpa [Value.ownBlock] using e.symm
      have NB := Lib.hid (New.on NA.out hk1 (fun b e => by have := hown b e; omega))
      have oB1 := Lib.hid (oB.out.kp hk1 fun c e1 e2 => by have := hown c e2; have := ltB.out c e1; omega)
      have oX1 := Lib.hid (oX.out.kp hk1 fun c e1 e2 => by have := hown c e2; have := ltX.out c e1; omega)
      have z1 := hk1.size
      skip
      have hv1h := Lib.hid (show OwnF 2 encE u1 bz 32 v1 fa from hv1)
      obtain ⟨pC, qC, hC, _⟩ := hv1.reads.len
      replace hC : v1 = .slice pC fa.length qC := hC
      subst hC
      clear hO oA oB oX NA hv1 hk1 ha1 hown
      go_wp2_with (at_builtin; refine wpList_pushesN rfl _ _ 23 rfl bz 32 _ 16 Try.underlying23 EvI.infoE rfl (by decide) _ fa rfl hv1h.out _ fb rfl oB1.out.reads (fun q _ => EvI.oneE q) ?ca2 ?cb2 ?cc2 ?_)
      case ca2 => first | omega | (simp; omega)
      case cb2 => first | omega | (simp; omega)
      case cc2 => omega
      intro v2 u2 hv2 hk2 ha2
      have hlow := Lib.hid hv1h.out.lt
      have NC := Lib.hid (New.on NB.out hk2 (fun b e => by have := (hlow.out b e).1; omega))
      have oX2 := Lib.hid (oX1.out.kp hk2 fun c e1 e2 => by have := (hlow.out c e2).1; have := ltX.out c e1; omega)
      rw [hab.out] at hv2
      obtain ⟨pD, qD, rfl, _⟩ := hv2.reads.len
      have hv2h := Lib.hid hv2
      clear hv2 hk2 ha2 NB oX1 oB1 hv1h
      go_wp2_with fail
      refine (Diff.implSame u2 _ _ _ _ _ _ fs fs hv2h.out.reads oX2.out.reads).mono ?_
      rintro e u3 ⟨rfl, hn9⟩
      have hs : decide (fs = fs) = true := by simp
      rw [hs]
      clear hs
      have ND := Lib.hid (NC.out.trans hn9)
      clear hn9 NC
      go_wp2
      go_ret
      exact ⟨rfl, ND.out.toBelow⟩
    · go_wp2_with fail
      refine (Proj.implProj w7 _ _ _ _ (LawK.from_ne oE_7.out.reads kk hkl hdk) (Nat.le_refl _) (by rw [List.length_drop]; omega)).mono ?_
      rintro e w8 ⟨vB, rfl, hn8, hB⟩
      have z8 := hn8.size
      have oE_8 := Lib.hid (oE_7.out.new hn8)
      have oX_8 := Lib.hid (oX_7.out.new hn8)
      have oA_8 := Lib.hid (oA_7.out.new hn8)
      have N8 : New w w8 := N7.trans hn8
      clear oE_7 oX_7 oA_7 N7 hn8
      rw [hfbh.out] at hB
      obtain ⟨pB, qB, rfl, _⟩ := hB.reads.len
      have oB_8 := Lib.hid hB
      clear hB
      have kA : New w8 (w8.alloc (.cells #[] 32)) := (Kp.refl _ _).alloc _
      have hO := Lib.hid (OwnF.empty (α := Ev) (n := 2) (enc := encE) w8 32 (base := w8.heap.size) (Nat.le_refl _))
      have oA := Lib.hid (oA_8.out.new kA)
      have oB := Lib.hid (oB_8.out.new kA)
      have oX := Lib.hid (oX_8.out.new kA)
      have ltB := Lib.hid (fun c e => (oB_8.out.lt c e).2)
      have ltX := Lib.hid (fun c e => (oX_8.out.lt c e).2)
      have NA := Lib.hid (N8.trans kA)
      have zN := N8.size
      have zA := kA.size
      obtain ⟨bz, hbz⟩ : ∃ b, w8.heap.size = b := ⟨_, rfl⟩
      rw [hbz] at hO ltB ltX
      have hbz1 : bz ≤ w8.heap.size := Nat.le_of_eq hbz.symm
      have hbz2 : w8.heap.size ≤ bz := Nat.le_of_eq hbz
      have hbzh := Lib.hid hbz
      clear hbz oA_8 oB_8 oX_8 oE_8 N8 kA
      go_wp2_with (at_builtin; refine wpList_pushesN rfl _ _ 23 rfl bz 32 _ 16 Try.underlying23 EvI.infoE rfl (by decide) _ [] rfl (by rw [hbzh.out]; exact hO.out) _ fa rfl oA.out.reads (fun q _ => EvI.oneE q) ?ca1 ?cb1 ?cc1 ?_)
      case ca1 => first | omega | (simp; omega)
      case cb1 => first | omega | (simp; omega)
      case cc1 => omega
      intro v1 u1 hv1 hk1 ha1
      have hown : ∀ b, (Value.slice (some ⟨w8.heap.size, 0, none⟩) 0 0).ownBlock = some b → b = w8.heap.size := fun b e => by simpa [Value.ownBlock] using e.symm
      have NB := Lib.hid (New.on NA.out hk1 (fun b e => by have := hown b e; omega))
      have oB1 := Lib.hid (oB.out.kp hk1 fun c e1 e2 => by have := hown c e2; have := ltB.out c e1; omega)
      have oX1 := Lib.hid (oX.out.kp hk1 fun c e1 e2 => by have := hown c e2; have := ltX.out c e1; omega)
      have z1 := hk1.size
      skip
      have hv1h := Lib.hid (show OwnF 2 encE u1 bz 32 v1 fa from hv1)
      obtain ⟨pC, qC, hC, _⟩ := hv1.reads.len
      replace hC : v1 = .slice pC fa.length qC := hC
      subst hC
      clear hO oA oB oX NA hv1 hk1 ha1 hown
      go_wp2_with (at_builtin; refine wpList_pushesN rfl _ _ 23 rfl bz 32 _ 16 Try.underlying23 EvI.infoE rfl (by decide) _ fa rfl hv1h.out _ fb rfl oB1.out.reads (fun q _ => EvI.oneE q) ?ca2 ?cb2 ?cc2 ?_)
      case ca2 => first | omega | (simp; omega)
      case cb2 => first | omega | (simp; omega)
      case cc2 => omega
      intro v2 u2 hv2 hk2 ha2
      have hlow := Lib.hid hv1h.out.lt
      have NC := Lib.hid (New.on NB.out hk2 (fun b e => by have := (hlow.out b e).1; omega))
      have oX2 := Lib.hid (oX1.out.kp hk2 fun c e1 e2 => by have := (hlow.out c e2).1; have := ltX.out c e1; omega)
      rw [hab.out] at hv2
      obtain ⟨pD, qD, rfl, _⟩ := hv2.reads.len
      have hv2h := Lib.hid hv2
      clear hv2 hk2 ha2 NB oX1 oB1 hv1h
      go_wp2_with fail
      refine (Diff.implSame u2 _ _ _ _ _ _ fs fs hv2h.out.reads oX2.out.reads).mono ?_
      rintro e u3 ⟨rfl, hn9⟩
      have hs : decide (fs = fs) = true := by simp
      rw [hs]
      clear hs
      have ND := Lib.hid (NC.out.trans hn9)
      clear hn9 NC
      go_wp2
      go_ret
      exact ⟨rfl, ND.out.toBelow⟩
set_option maxRecDepth 100000 in
theorem lifted (os : Os) (started : os.Started) (H : Type) (enc : TypeId × Value → H) :
    ReturnsInHanded {} Try.checked os 3 .any (Rows.fnProjectTraceSpec.pre6 enc Try.prog Try.f3 Rows.fnProjectTraceRow.domain false) (Rows.fnProjectTraceSpec.post enc Try.prog Try.f3 false true false false) := by
  refine returnsInHanded_of_change (C := Try.checked) own started (by kernel_rfl) Try.func3
    (ChangeSpec.witness6 (enc := enc) (C := Try.checked) false ⟨#[], #[.slice none 0 0, .slice none 0 0], []⟩ 8 (by kernel_rfl) (by kernel_rfl) (by kernel_rfl) (by kernel_rfl)) ?_
  intro W base args ds gs before hval0 hW hcnd _
  have hval : ∀ (j : Nat) t v, Try.f3.params[j]? = some t → args[j]? = some v → Value.okWide Try.prog W .any base t v := hval0
  have hW' := hW
  obtain ⟨p, q, hA0, hV, rfl, hfz, hnd⟩ := hW
  have hA : DataW.TrodAll enc Try.prog W 0 (fun _ => true) true Try.f3.params.toList args.toList ds p := hA0
  rw [Try.params3] at hA hval
  obtain ⟨v0, vs0, d0, ds0, p0, q0, hargs, rfl, rfl, h0, r0⟩ := trodAll_cons hA
  obtain ⟨v1, vs1, d1, ds1, p1, q1, rfl, rfl, rfl, h1, r1⟩ := trodAll_cons r0
  obtain ⟨rfl, rfl, rfl⟩ := trodAll_nil r1
  obtain rfl : args = #[v0, v1] := by cases args; simp_all
  obtain ⟨rfl, rfl⟩ := trodVars_none hV
  have kk0 := h0
  have lt0 : ∀ x ∈ p0, x.block < W.heap.size := by obtain ⟨m, hm⟩ := kk0; exact DataW.trod_lt m _ _ _ hm
  obtain ⟨a0, l0, c0, rfl, s0⟩ := Kit.open_bytes Try.underlying22 Try.underlying5 (by kernel_rfl) (hval 0 22 v0 rfl rfl) h0
  have kk1 := h1
  have lt1 : ∀ x ∈ p1, x.block < W.heap.size := by obtain ⟨m, hm⟩ := kk1; exact DataW.trod_lt m _ _ _ hm
  obtain ⟨a1, l1, c1, rfl, s1⟩ := Kit.open_bytes Try.underlying22 Try.underlying5 (by kernel_rfl) (hval 1 22 v1 rfl rfl) h1
  clear hA0 hval0
  refine (walk a0 l0 c0 a1 l1 c1 W s0 s1).mono fun e W' ⟨he, bel⟩ => ?_
  subst he
  exact ⟨_, rfl, _, _, _, [], _, [], hW', trodAll_mk1 (shut_bool Try.underlying4 _), (trodAll_cons_mk (Below.trod laidOut (by kernel_rfl) (of_decide_eq_true (by kernel_rfl)) kk0 bel lt0) (trodAll_cons_mk (Below.trod laidOut (by kernel_rfl) (of_decide_eq_true (by kernel_rfl)) kk1 bel lt1) trodAll_mk0)), rfl, bel.frame _, fun h => by cases h⟩
theorem over : Rows.fnProjectTraceRow.holds Try.pinned (OpenSpec.ofChange Rows.fnProjectTraceSpec) :=
  OpenClaim.holds_of_wide 3 Try.f3 rfl rfl rfl rfl rfl rfl rfl ⟨rfl, rfl, rfl, rfl, rfl⟩ rfl rfl rfl rfl rfl (by kernel_rfl) Try.func3 (by kernel_rfl)
    (of_decide_eq_true (by kernel_rfl)) (by unfold Func.isWrapper; first | (rw [if_pos (by decide +kernel)]; kernel_rfl) | (rw [if_neg (by decide +kernel)]; exact ⟨rfl, rfl⟩))
    (fun os started H enc _ => lifted os started H enc)
theorem proved : Rows.FnProjectTraceSaid := over
#print axioms proved
end Go.Proofs.Ytckikiaockkmbaa.fnProjectTrace
