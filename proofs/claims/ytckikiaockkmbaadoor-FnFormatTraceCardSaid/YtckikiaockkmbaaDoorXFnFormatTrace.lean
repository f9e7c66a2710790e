/- FnFormatTrace: for every input the law returns true, and the arguments read as they did; the listed variables as the program lays them. No conditions. -/
import Derived.Test.YtckikiaockkmbaaDoorRows
import Derived.Test.YtckikiaockkmbaaDoorCards
import Derived.Test.YtckikiaockkmbaaDoorTie
import Derived.Test.YtckikiaockkmbaaDoorXLaidD
import Derived.Test.YtckikiaockkmbaaDoorXFmtT
import Derived.Test.YtckikiaockkmbaaDoorXDrawK
import Derived.Test.YtckikiaockkmbaaDoorXEvI
import Derived.WalkKit
import Derived.ProofKit
import Derived.OpenShut
import Derived.ShutString
import Derived.ChangeOld
import Derived.Below
import Derived.SevenTiedAt
import Derived.LaidMore
import Derived.Stop.Joined
namespace Go.Proofs.YtckikiaockkmbaaDoor.fnFormatTrace
open Go.ChangeShapes Go.WideShapes Go.ChangeAt Go.RowKit Kit MarkC
open Go.ChangeMaps (open_string shut_string)
set_option linter.unusedVariables false
theorem own : ownKnob Tryd.prog.godebug = none := by kernel_rfl
theorem laidOut : laidOutB Tryd.prog = true := by kernel_rfl
set_option maxHeartbeats 8000000 in
set_option maxRecDepth 100000 in
theorem walk (a0 : Option Addr) (l0 c0 : Nat) (a1 : Option Addr) (l1 c1 : Nat) (w : World) (s0 : Kit.Src w a0 l0 c0) (s1 : Kit.Src w a1 l1 c1) (ht : DecT.Tab w) :
    Calls Tryd.prog 5 #[.slice a0 l0 c0, .slice a1 l1 c1] w fun e w' => e = .returned (.bool true) ∧ Below w.heap.size w w' := by
  by_cases hl : 1048576 < l0
  · go_enter Tryd.func5, Tryd.ntmps5
    go_wp2
    go_ret
    exact ⟨rfl, Below.refl _ _⟩
  have hl1 : ¬ 1048576 < l0 := hl
  clear hl
  by_cases hl : 1048576 < l1
  · go_enter Tryd.func5, Tryd.ntmps5
    go_wp2
    go_ret
    exact ⟨rfl, Below.refl _ _⟩
  have htb := Lib.hid ht
  go_enter Tryd.func5, Tryd.ntmps5
  go_wp2_with fail
  refine (DrawK.drawFmt _ a0 l0 c0 s0).mono ?_
  rintro e w1 ⟨ev, xs, rfl, N1, hE, hx6⟩
  obtain ⟨aE, dE, rfl, hx63⟩ := hE.reads.len
  have E1 := Lib.hid hE
  have sh := Lib.hid (s1.keep N1)
  have hxh := Lib.hid hx6
  have N1h := Lib.hid N1
  have y1 := N1.size
  clear hE hx6 s0 s1 ht N1
  go_wp2_with fail
  refine (DrawK.drawFmt _ a1 l1 c1 sh.out).mono ?_
  rintro e w2 ⟨fv, ys, rfl, hn2, hF, hy6⟩
  obtain ⟨aF, dF, rfl, hy63⟩ := hF.reads.len
  have F2 := Lib.hid (hF.mono y1)
  have E2 := Lib.hid (E1.out.new hn2)
  have N2 := Lib.hid (N1h.out.trans hn2)
  have hyh := Lib.hid hy6
  clear hF hy6 E1 sh N1h hn2
  obtain ⟨X, hX0⟩ : ∃ X : ByteArray, (⟨(FmtP.text xs).toArray⟩ : ByteArray) = X := ⟨_, rfl⟩
  obtain ⟨Y, hY0⟩ : ∃ Y : ByteArray, (⟨(FmtP.text ys).toArray⟩ : ByteArray) = Y := ⟨_, rfl⟩
  have hX := Lib.hid hX0
  have hY := Lib.hid hY0
  clear hX0 hY0
  go_wp2_with fail
  refine (FmtT.implFmt _ _ _ _ xs E2.out.reads (Nat.le_refl _) (by have := hxh.out; omega) (htb.out.new N2.out)).mono ?_
  rintro e w3 ⟨rfl, hn3⟩
  rw [hX.out]
  have N3 := Lib.hid (N2.out.trans hn3)
  have E3 := Lib.hid (E2.out.new hn3)
  have F3 := Lib.hid (F2.out.new hn3)
  clear N2 E2 F2 hn3
  go_wp2_with fail
  refine (FmtT.implFmt _ _ _ _ ys F3.out.reads (Nat.le_refl _) (by have := hyh.out; omega) (htb.out.new N3.out)).mono ?_
  rintro e w4 ⟨rfl, hn4⟩
  rw [hY.out]
  have N4 := Lib.hid (N3.out.trans hn4)
  have E4 := Lib.hid (E3.out.new hn4)
  have F4 := Lib.hid (F3.out.new hn4)
  clear N3 E3 F3 hn4
  go_wp2_with fail
  refine (FmtT.specFmt _ _ _ _ xs E4.out.reads (Nat.le_refl _) (by have := hxh.out; omega)).mono ?_
  rintro e w5 ⟨rfl, hn5⟩
  rw [hX.out]
  have N5 := Lib.hid (N4.out.trans hn5)
  have E5 := Lib.hid (E4.out.new hn5)
  have F5 := Lib.hid (F4.out.new hn5)
  clear N4 E4 F4 hn5
  by_cases hXe : FmtP.text xs = []
  · obtain rfl : (⟨#[]⟩ : ByteArray) = X := by rw [← hX.out, hXe]
    clear hXe hx63 hy63
    go_wp2_with fail
    refine (FmtT.specFmt _ _ _ _ xs E5.out.reads (Nat.le_refl _) (by have := hxh.out; omega)).mono ?_
    rintro e w6 ⟨rfl, hn6⟩
    rw [hX.out]
    have N6 := Lib.hid (N5.out.trans hn6)
    have E6 := Lib.hid (E5.out.new hn6)
    have F6 := Lib.hid (F5.out.new hn6)
    clear N5 E5 F5 hn6
    go_wp2
    go_ret
    exact ⟨rfl, N6.out.toBelow⟩
  have hXn : ¬ X = (⟨#[]⟩ : ByteArray) := fun h => by
    rw [← hX.out] at h
    exact hXe (by simpa using congrArg (fun b : ByteArray => b.data.toList) h)
  have hXt : ¬ X.toList = [] := fun h => hXn (by rw [ByteArray.toList_eq] at h; exact FmtP.ba_ext h)
  have hXb : (X.toList == ([] : List UInt8)) = false := by rw [beq_eq_false_iff_ne]; exact hXt
  have hXi : X.toList.isEmpty = false := by rw [List.isEmpty_eq_false_iff]; exact hXt
  by_cases hYe : FmtP.text ys = []
  · obtain rfl : (⟨#[]⟩ : ByteArray) = Y := by rw [← hY.out, hYe]
    clear hXe hYe hx63 hy63
    go_wp2_with fail
    refine (FmtT.specFmt _ _ _ _ xs E5.out.reads (Nat.le_refl _) (by have := hxh.out; omega)).mono ?_
    rintro e w6 ⟨rfl, hn6⟩
    rw [hX.out]
    have N6 := Lib.hid (N5.out.trans hn6)
    have E6 := Lib.hid (E5.out.new hn6)
    have F6 := Lib.hid (F5.out.new hn6)
    clear N5 E5 F5 hn6
    go_wp2
    go_ret
    exact ⟨rfl, N6.out.toBelow⟩
  have hYn : ¬ Y = (⟨#[]⟩ : ByteArray) := fun h => by
    rw [← hY.out] at h
    exact hYe (by simpa using congrArg (fun b : ByteArray => b.data.toList) h)
  have hYt : ¬ Y.toList = [] := fun h => hYn (by rw [ByteArray.toList_eq] at h; exact FmtP.ba_ext h)
  have hYb : (Y.toList == ([] : List UInt8)) = false := by rw [beq_eq_false_iff_ne]; exact hYt
  have hYi : Y.toList.isEmpty = false := by rw [List.isEmpty_eq_false_iff]; exact hYt
  have hfin := Lib.hid (show (⟨(FmtP.text (xs ++ ys)).toArray⟩ : ByteArray) = X ++ ⟨#[32]⟩ ++ Y from (FmtP.ba_ext (by rw [FmtP.app_toList, FmtP.app_toList, ← hX.out, ← hY.out, FmtP.text_app hXe hYe]; simp)).symm)
  have hXs : X.size ≤ 5000000 := by
    have h1 := FmtP.text_len xs
    have h2 := hxh.out
    rw [← hX.out, FmtP.size_toList]; simp only; omega
  have hYs : Y.size ≤ 5000000 := by
    have h1 := FmtP.text_len ys
    have h2 := hyh.out
    rw [← hY.out, FmtP.size_toList]; simp only; omega
  have h32 : (⟨#[32]⟩ : ByteArray).size = 1 := rfl
  have b1 := FmtT.addS X ⟨#[32]⟩ (by omega)
  have b2 := FmtT.addO X ⟨#[32]⟩ (by omega)
  have b3 := FmtT.addS (X ++ ⟨#[32]⟩) Y (by rw [ByteArray.size_append]; omega)
  have b4 := FmtT.addO (X ++ ⟨#[32]⟩) Y (by rw [ByteArray.size_append]; omega)
  clear hXs hYs h32 hXe hYe
  have kA : New w5 (w5.alloc (.cells #[] 54)) := (Kp.refl _ _).alloc _
  have hO := Lib.hid (OwnF.empty (α := Ev) (n := 2) (enc := encE) w5 54 (base := w5.heap.size) (Nat.le_refl _))
  have EA := Lib.hid (E5.out.new kA)
  have FA := Lib.hid (F5.out.new kA)
  have ltF := Lib.hid (fun c e => (F5.out.lt c e).2)
  have NA := Lib.hid (N5.out.trans kA)
  have zN := N5.out.size
  have zA := kA.size
  obtain ⟨bz, hbz⟩ : ∃ b, w5.heap.size = b := ⟨_, rfl⟩
  rw [hbz] at hO ltF
  have hbz1 : bz ≤ w5.heap.size := Nat.le_of_eq hbz.symm
  have hbz2 : w5.heap.size ≤ bz := Nat.le_of_eq hbz
  have hbzh := Lib.hid hbz
  clear hbz E5 F5 N5 kA
  go_wp2_with (at_builtin; refine wpList_pushesN rfl _ _ 25 rfl bz 54 _ 16 Tryd.underlying25 EvI.infoE rfl (by decide) _ [] rfl (by rw [hbzh.out]; exact hO.out) _ xs rfl EA.out.reads (fun q _ => EvI.oneE q) ?ca1 ?cb1 ?cc1 ?_)
  case ca1 => have := hxh.out; simp; omega
  case cb1 => have := hxh.out; simp; omega
  case cc1 => omega
  intro v1 u1 hv1 hk1 ha1
  have hown : ∀ b, (Value.slice (some ⟨w5.heap.size, 0, none⟩) 0 0).ownBlock = some b → b = w5.heap.size := fun b e => by simpa [Value.ownBlock] using e.symm
  have NB := Lib.hid (New.on NA.out hk1 (fun b e => by have := hown b e; omega))
  have FB := Lib.hid (FA.out.kp hk1 fun c e1 e2 => by have := hown c e2; have := ltF.out c e1; omega)
  have z1 := hk1.size
  have hv1h := Lib.hid (show OwnF 2 encE u1 bz 54 v1 xs from hv1)
  obtain ⟨pC, qC, hC, _⟩ := hv1.reads.len
  replace hC : v1 = .slice pC xs.length qC := hC
  subst hC
  clear hO EA FA NA hv1 hk1 ha1 hown
  go_wp2_with (at_builtin; refine wpList_pushesN rfl _ _ 25 rfl bz 54 _ 16 Tryd.underlying25 EvI.infoE rfl (by decide) _ xs rfl hv1h.out _ ys rfl FB.out.reads (fun q _ => EvI.oneE q) ?ca2 ?cb2 ?cc2 ?_)
  case ca2 => have := hxh.out; have := hyh.out; omega
  case cb2 => have := hxh.out; have := hyh.out; omega
  case cc2 => omega
  intro v2 u2 hv2 hk2 ha2
  have hlow := Lib.hid hv1h.out.lt
  have NC := Lib.hid (New.on NB.out hk2 (fun b e => by have := (hlow.out b e).1; omega))
  obtain ⟨pD, qD, rfl, _⟩ := hv2.reads.len
  have hv2h := Lib.hid hv2
  have hll := Lib.hid (show (xs ++ ys).length ≤ 2097152 by have := hxh.out; have := hyh.out; rw [List.length_append]; omega)
  clear hv2 hk2 ha2 NB FB hv1h
  generalize hzs : xs ++ ys = zs at *
  clear hzs
  go_wp2_with fail
  refine (FmtT.implFmt _ _ _ _ zs hv2h.out.reads (Nat.le_refl _) hll.out (htb.out.new NC.out)).mono ?_
  rintro e u3 ⟨rfl, hn9⟩
  rw [hfin.out]
  have ND := Lib.hid (NC.out.trans hn9)
  clear hn9 NC hv2h
  go_wp2
  go_ret
  exact ⟨rfl, ND.out.toBelow⟩
set_option maxRecDepth 100000 in
theorem lifted (os : Os) (started : os.Started) (H : Type) (enc : TypeId × Value → H) :
    ReturnsInHanded {} Tryd.checked os 5 .any (fun w args => (Rows.fnFormatTraceSpec.pre enc Tryd.prog Tryd.f5 [] false w args ∧ laidMetH Tryd.prog Rows.fnFormatTraceRow.laid w) ∧ sizedMet enc Tryd.prog Tryd.f5 (OpenSpec.ofChange Rows.fnFormatTraceSpec) false w args)
      (Rows.fnFormatTraceSpec.post enc Tryd.prog Tryd.f5 false true false false) := by
  refine returnsInHanded_of_change_and (C := Tryd.checked) (X := fun w _ => laidMetH Tryd.prog Rows.fnFormatTraceRow.laid w) (fun _ _ _ hh h => h.of_heap hh) own started (by kernel_rfl) Tryd.func5
    (ChangeSpec.witness_shaped (enc := enc) (C := Tryd.checked) (os := os) (X := fun w _ => laidMetH Tryd.prog Rows.fnFormatTraceRow.laid w) false (World.doorLaid Tryd.prog 24 os) #[.slice none 0 0, .slice none 0 0] 8 rfl (World.shaped_of_RefB (by kernel_rfl) (by kernel_rfl)) (by kernel_rfl) (by kernel_rfl) (by kernel_rfl) (LaidD.door_met os _)) ?_
  intro W base args ds gs before hval0 hW _ _ hL _
  have hval : ∀ (j : Nat) t v, Tryd.f5.params[j]? = some t → args[j]? = some v → Value.okWide Tryd.prog W .any base t v := hval0
  have hW' := hW
  obtain ⟨p, q, hA0, hV, rfl, hfz, hnd⟩ := hW
  have hA : DataW.TrodAll enc Tryd.prog W 0 (fun _ => true) true Tryd.f5.params.toList args.toList ds p := hA0
  rw [Tryd.params5] at hA hval
  obtain ⟨v0, vs0, d0, ds0, p0, q0, hargs, rfl, rfl, h0, r0⟩ := trodAll_cons hA
  obtain ⟨v1, vs1, d1, ds1, p1, q1, rfl, rfl, rfl, h1, r1⟩ := trodAll_cons r0
  obtain ⟨rfl, rfl, rfl⟩ := trodAll_nil r1
  obtain rfl : args = #[v0, v1] := by cases args; simp_all
  obtain ⟨rfl, rfl⟩ := trodVars_none hV
  have ht := LaidD.tab_of_laid hL
  have kk0 := h0
  have lt0 : ∀ x ∈ p0, x.block < W.heap.size := by obtain ⟨m, hm⟩ := kk0; exact DataW.trod_lt m _ _ _ hm
  obtain ⟨a0, l0, c0, rfl, s0⟩ := Kit.open_bytes Tryd.underlying50 Tryd.underlying5 (by kernel_rfl) (hval 0 50 v0 rfl rfl) h0
  have kk1 := h1
  have lt1 : ∀ x ∈ p1, x.block < W.heap.size := by obtain ⟨m, hm⟩ := kk1; exact DataW.trod_lt m _ _ _ hm
  obtain ⟨a1, l1, c1, rfl, s1⟩ := Kit.open_bytes Tryd.underlying50 Tryd.underlying5 (by kernel_rfl) (hval 1 50 v1 rfl rfl) h1
  clear hA0 hval0
  refine (walk a0 l0 c0 a1 l1 c1 W s0 s1 ht).mono fun e W' ⟨he, bel⟩ => ?_
  subst he
  exact ⟨_, rfl, _, _, _, [], _, [], hW', trodAll_mk1 (shut_bool Tryd.underlying4 _), (trodAll_cons_mk (Below.trod laidOut (by kernel_rfl) (of_decide_eq_true (by kernel_rfl)) kk0 bel lt0) (trodAll_cons_mk (Below.trod laidOut (by kernel_rfl) (of_decide_eq_true (by kernel_rfl)) kk1 bel lt1) trodAll_mk0)), rfl, bel.frame _, fun h => by cases h⟩
theorem over : Rows.fnFormatTraceRow.holds Tryd.pinned (OpenSpec.ofChange Rows.fnFormatTraceSpec) :=
  OpenClaim.holds_of_wide 5 Tryd.f5 rfl rfl rfl rfl rfl rfl rfl ⟨rfl, rfl, rfl, rfl, rfl⟩ rfl rfl rfl rfl rfl (by kernel_rfl) Tryd.func5 (by kernel_rfl)
    (of_decide_eq_true (by kernel_rfl)) (by unfold Func.isWrapper; first | (rw [if_pos (by decide +kernel)]; kernel_rfl) | (rw [if_neg (by decide +kernel)]; exact ⟨rfl, rfl⟩))
    (fun os started H enc _ => lifted os started H enc)
theorem proved : Rows.FnFormatTraceCardSaid :=
  Claim7.holds_tied_plain_at .later [] [.data, .data, .data] true _ _ over (fun _ h => by cases h) (by kernel_rfl) (fun _ h => by cases h) fnFormatTrace_row_tie rfl ⟨rfl, rfl⟩ (by kernel_rfl) rfl
    (fun f fn hf hfn => by
      obtain rfl : f = 5 := (Option.some.inj ((show Tryd.prog.funcNamed "loop.example/constanttime/laws.FnFormatTrace" = some 5 by kernel_rfl).symm.trans hf)).symm
      obtain rfl : fn = Tryd.f5 := (Option.some.inj (Tryd.func5.symm.trans hfn)).symm
      have hall : (Tryd.f5.params.toList.all fun u => !Tryd.prog.wantsStandIn u) = true := by kernel_rfl
      exact ⟨by kernel_rfl, fun j t ht => by
        have := List.all_eq_true.1 hall t (Array.mem_toList_iff.2 (Array.mem_of_getElem? ht))
        exact (show Tryd.prog.wantsStandIn t = false by simpa using this)⟩)
    (by kernel_rfl)
#print axioms proved
end Go.Proofs.YtckikiaockkmbaaDoor.fnFormatTrace
