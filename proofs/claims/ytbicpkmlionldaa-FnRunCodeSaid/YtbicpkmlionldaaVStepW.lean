/- One step of the program's machine. Conditions: the machine is a valid state of valid code. -/
import Derived.Test.YtbicpkmlionldaaVP7
import Derived.Test.YtbicpkmlionldaaVP5
import Derived.Test.YtbicpkmlionldaaVP2
import Derived.BigRegion
import Derived.Deep.RegionWith
import Derived.StillTailTactics
import Derived.Test.YtbicpkmlionldaaVP1
namespace Go.Proofs.Ytbicpkmlionldaa.StepW
open Go.RowKit Kit Step MarkC StepK
set_option linter.unusedVariables false
def eMax : Nat := 8796093022208
def Post (w : World) (lo hi b : Nat) (vr va vb : Value) (s : Ms) (l : List Ev) (e : Ending) (w' : World) : Prop := ∃ ve, e = .returned ve ∧ Kp (fun k => k = b ∨ lo ≤ k ∧ k < hi) w w' ∧ w'.heap[b]? = some (.cells #[.int .i64 s.pc, vr, va, vb] 38) ∧ MachO w' lo hi vr va vb s.r s.v s.a ∧ OwnF 2 encE w' w.heap.size 68 ve l
theorem fin {w wc W : World} {lo hi b : Nat} {vr va vb : Value} {s : Ms} {l : List Ev} {p : Int} {ve : Value} (N : New w wc) (hh : hi ≤ w.heap.size) (hb : b < lo ∨ hi ≤ b) (hm : w.heap[b]? = some (.cells #[.int .i64 p, vr, va, vb] 38))
    (k : Kp (fun k => lo ≤ k ∧ k < hi ∨ w.heap.size ≤ k) wc W) (hO : MachO W lo hi vr va vb s.r s.v s.a) (hE : OwnF 2 encE W w.heap.size 68 ve l) : Post w lo hi b vr va vb s l (.returned ve) (W.setCell ⟨b, 0, none⟩ (.int .i64 s.pc)) := by
  have hbw := heap_lt hm
  have hs : wc.heap.size ≤ W.heap.size := k.size
  have hN := N.size
  have hMc := heap_new N hm
  have hMW : W.heap[b]? = some (.cells #[.int .i64 p, vr, va, vb] 38) := (k.block b (by omega) (fun e => by omega)).trans hMc
  have k1 : Kp (fun k => k = b) W (W.setCell ⟨b, 0, none⟩ (.int .i64 s.pc)) := (Kp.refl (fun k => k = b) W).setCell (p := ⟨b, 0, none⟩) (.inl rfl) _
  refine ⟨ve, rfl, ?_, setCell_heap (o := 0) hMW _, hO.kp k1 (fun x e => by omega), hE.kp k1 (fun x hx e => by have := (hE.lt x hx).1; omega)⟩
  have a1 : Kp (fun k => k = b ∨ lo ≤ k ∧ k < hi) w wc := N.mono (fun _ _ f => f.elim)
  exact ⟨k1.os.trans (k.os.trans a1.os), k1.tape.trans (k.tape.trans a1.tape), k1.output.trans (k.output.trans a1.output), by have := k1.size; omega, fun x hx hn => ((k1.block x (by omega) (fun e => hn (.inl e))).trans (k.block x (by omega) (fun e => hn (by omega)))).trans (a1.block x hx hn)⟩
theorem Post.drew {w W : World} {lo hi b : Nat} {vr va vb : Value} {s : Ms} {l : List Ev} {e : Ending} (h : Post w lo hi b vr va vb s l e W) : Post w lo hi b vr va vb s l e W.drew := by
  obtain ⟨ve, h1, h2, h3, h4, h5⟩ := h
  have kd : New W W.drew := (Kp.refl _ _).drew
  exact ⟨ve, h1, h2.drew, h3, h4.kp kd (fun _ f => f.elim), h5.new kd⟩
set_option maxHeartbeats 8000000 in
set_option maxRecDepth 100000 in
theorem step (w : World) (lo hi b lc hc p : Nat) (ta tb tc vr va vb : Value) (xa xb yr ya : List Int) (x : List Ins) (yb : List (List Int)) (sa : IntsR w lc hc ta xa) (sb : IntsR w lc hc tb xb) (s : InssR w lc hc tc x) (h1 : hc ≤ w.heap.size)
    (hm : w.heap[b]? = some (.cells #[.int .i64 p, vr, va, vb] 38)) (hO : MachO w lo hi vr va vb yr ya yb) (hb : b < lo ∨ hi ≤ b) (hh : hi ≤ w.heap.size) (hp : p < x.length) (hx : x.length ≤ 400) (hv : View ya.length yb.length x.length x[p]) (hk : Okm ya.length yb.length x.length ⟨p, yr, ya, yb⟩) (hn : yb.length ≤ 100) :
    Calls Try.prog 30 #[.pointer (some ⟨b, 0, none⟩), .agg #[ta, tb, tc]] w (Post w lo hi b vr va vb (eff x[p] ⟨p, yr, ya, yb⟩).1 ((5, (p : Int)) :: (eff x[p] ⟨p, yr, ya, yb⟩).2)) := by
  obtain ⟨a1, d1, rfl, l1⟩ := sa.len
  obtain ⟨a2, d2, rfl, l2⟩ := sb.len
  obtain ⟨a3, d3, rfl, l3⟩ := s.len
  obtain ⟨⟨a4, d4, rfl⟩, ⟨a5, d5, rfl⟩, a6, d6, rfl⟩ := hO.toR.lens
  obtain ⟨bc, oc, rfl, hbc1, hbc2, c0, c1, c2, c3, c4⟩ := s.at p hp
  obtain ⟨y, hy⟩ : ∃ y, x[p] = y := ⟨_, rfl⟩
  rw [hy] at c0 c1 c2 c3 c4 hv
  rw [hy]
  have hkh := Lib.hid hk
  have hvh := Lib.hid hv
  have hOh := Lib.hid hO
  clear hO s sa sb hk hv hy
  go_enter Try.func30, Try.ntmps30
  go_wp2_with fail
  have N0 : New w (w.alloc (.cells #[.slice a1 xa.length d1, .slice a2 xb.length d2, .slice (some ⟨bc, oc, none⟩) x.length d3] 26)) := (Kp.refl _ _).alloc _
  have bC : (w.alloc (.cells #[.slice a1 xa.length d1, .slice a2 xb.length d2, .slice (some ⟨bc, oc, none⟩) x.length d3] 26)).heap[w.heap.size]? = some (.cells #[.slice a1 xa.length d1, .slice a2 xb.length d2, .slice (some ⟨bc, oc, none⟩) x.length d3] 26) := alloc_heap _ _
  have z0 : w.heap.size < (w.alloc (.cells #[.slice a1 xa.length d1, .slice a2 xb.length d2, .slice (some ⟨bc, oc, none⟩) x.length d3] 26)).heap.size := by simp
  have bM := heap_new N0 hm
  have e0 := (N0.cell (cell_lt c0) (fun f => f) _).trans c0
  have e1 := (N0.cell (cell_lt c1) (fun f => f) _).trans c1
  have e2 := (N0.cell (cell_lt c2) (fun f => f) _).trans c2
  have e3 := (N0.cell (cell_lt c3) (fun f => f) _).trans c3
  have e4 := (N0.cell (cell_lt c4) (fun f => f) _).trans c4
  generalize (w.alloc (.cells #[.slice a1 xa.length d1, .slice a2 xb.length d2, .slice (some ⟨bc, oc, none⟩) x.length d3] 26)) = w0 at *
  clear c0 c1 c2 c3 c4
  obtain ⟨k0, k1, k2⟩ := cells3 bC
  obtain ⟨m0, m1, m2, m3⟩ := cells4 bM
  have bl := heap_lt bM
  have cl := cell_lt e0
  have kl := heap_lt bC
  go_cut [5, 6] (fun p5 p6 wc => ∃ bx, p5 = .pointer (some ⟨bx, 0, none⟩) ∧ p6 = .slice a4 yr.length d4 ∧ New w wc ∧ w.heap.size ≤ bx ∧ wc.heap[bx]? = some (.cells #[.int .i64 y.op, .int .i64 y.a, .int .i64 y.b, .int .i64 y.c, .int .i64 y.d] 42))
  case first =>
    go_region
    all_goals
      go_wp2_with fail
      go_meet
      have hd : New w0 ((w0.alloc (.cells #[.int .i64 y.op, .int .i64 y.a, .int .i64 y.b, .int .i64 y.c, .int .i64 y.d] 42)).drew) := ((Kp.refl _ _).alloc _).drew
      exact ⟨w0.heap.size, rfl, rfl, N0.trans hd, by omega, alloc_heap _ _⟩
  case rest =>
    obtain ⟨bx, rfl, rfl, N, hbx, bX⟩ := hcut
    clear N0 bC z0 bM e0 e1 e2 e3 e4 k0 k1 k2 m0 m1 m2 m3 bl cl kl
    have bM := heap_new N hm
    have m0 := cell_of_heap bM 0
    have bl := heap_lt bM
    go_upto_region 2 with fail
    go_cut [7] (fun p7 wd => ∃ be, p7 = .slice (some ⟨be, 0, none⟩) 1 1 ∧ New w wd ∧ wd.heap[bx]? = some (.cells #[.int .i64 y.op, .int .i64 y.a, .int .i64 y.b, .int .i64 y.c, .int .i64 y.d] 42) ∧ w.heap.size ≤ be ∧ bx < be ∧ wd.heap[be]? = some (.cells #[.int .i64 5, .int .i64 p] 68))
    case first =>
      go_wp2_with fail
      go_meet
      have hd : New wc (wc.alloc (.cells #[.int .i64 5, .int .i64 p] 68)) := (Kp.refl _ _).alloc _
      exact ⟨wc.heap.size, rfl, N.trans hd, heap_new hd bX, N.size, heap_lt bX, alloc_heap _ _⟩
    case rest =>
    obtain ⟨be, rfl, N1, bX1, hbe, hxe, bE⟩ := hcut
    clear bX bM m0 bl N
    have N := N1
    have bX := bX1
    clear N1 bX1
    obtain ⟨we, hwe⟩ : ∃ we, we = wc := ⟨_, rfl⟩
    subst hwe
    have hE := Lib.hid (ev_own bE hbe)
    have rl1 : 14 ≤ yr.length := Nat.le_of_eq hkh.out.rl.symm
    have rl2 : yr.length ≤ 14 := Nat.le_of_eq hkh.out.rl
    have hv := hvh.out
    clear hvh bE
    cases hv with
    | const a z ha hz hz2 =>
      as_aux_lemma =>
        dsimp only at bX
        have bM := heap_new N hm
        have hO := hOh.out.new hh N
        obtain ⟨x0, x1, x2, x3, x4⟩ := cells5 bX
        obtain ⟨m0, m1, m2, m3⟩ := cells4 bM
        have mf := frozen_of_heap bM
        have bl := heap_lt bM
        have xl := heap_lt bX
        have zN := N.size
        obtain ⟨br, rfl, hr1, hr2, hrc, hrf, hset⟩ := hO.regs (by omega)
        have rc := Lib.hid hrc
        have rf := Lib.hid hrf
        have rs := Lib.hid hset
        have hOc := Lib.hid hO
        have rb := cell_lt (hrc 0 (by omega))
        clear hO hrc hrf hset bX bM
        have he := Lib.hid (show eff ⟨1, a, z, 0, 0⟩ ⟨p, yr, ya, yb⟩ = (⟨p + 1, yr.set a z, ya, yb⟩, []) by simp [eff, put0_nat])
        have ca := rc.out a (by omega)
        have fa := rf.out a
        go_wp2
        go_ret
        rw [he.out]
        have kk : Kp (fun k => lo ≤ k ∧ k < hi ∨ w.heap.size ≤ k) we (we.setCell ⟨br, a, none⟩ (.int .i64 (z))) := (Kp.refl _ _).setCell (p := ⟨br, a, none⟩) (.inl (.inl ⟨by omega, by omega⟩)) _
        exact (fin N hh hb hm kk (rs.out a (by omega) z) (hE.out.kp (S := fun x => x = br) ((Kp.refl (fun x => x = br) we).setCell (p := ⟨br, a, none⟩) (.inl rfl) _) (fun x hx e => by have := (hE.out.lt x hx).1; omega)))
    | get a j ha hj =>
      as_aux_lemma =>
        dsimp only at bX
        have bM := heap_new N hm
        have hO := hOh.out.new hh N
        obtain ⟨x0, x1, x2, x3, x4⟩ := cells5 bX
        obtain ⟨m0, m1, m2, m3⟩ := cells4 bM
        have mf := frozen_of_heap bM
        have bl := heap_lt bM
        have xl := heap_lt bX
        have zN := N.size
        obtain ⟨br, rfl, hr1, hr2, hrc, hrf, hset⟩ := hO.regs (by omega)
        have rc := Lib.hid hrc
        have rf := Lib.hid hrf
        have rs := Lib.hid hset
        have hOc := Lib.hid hO
        have rb := cell_lt (hrc 0 (by omega))
        clear hO hrc hrf hset bX bM
        have he := Lib.hid (show eff ⟨2, a, j, 0, 0⟩ ⟨p, yr, ya, yb⟩ = (⟨p + 1, yr.set a (ya[j]), ya, yb⟩, []) by simp [eff, put0_nat, at0_nat hj])
        have ca := rc.out a (by omega)
        have fa := rf.out a
        obtain ⟨bv, rfl, hv1, hv2, vc, vf, vs⟩ := hOc.out.vals (by omega)
        have cj := vc j hj
        have vb := cell_lt cj
        clear vc vf vs
        go_wp2_with fail
        go_region
        all_goals
          go_wp2
          go_ret
          rw [he.out]
          have kk : Kp (fun k => lo ≤ k ∧ k < hi ∨ w.heap.size ≤ k) we (we.setCell ⟨br, a, none⟩ (.int .i64 (ya[j]))) := (Kp.refl _ _).setCell (p := ⟨br, a, none⟩) (.inl (.inl ⟨by omega, by omega⟩)) _
          exact Post.drew (fin N hh hb hm kk (rs.out a (by omega) _) (hE.out.kp (S := fun x => x = br) ((Kp.refl (fun x => x = br) we).setCell (p := ⟨br, a, none⟩) (.inl rfl) _) (fun x hx e => by have := (hE.out.lt x hx).1; omega)))
    | put j c hj hc =>
      as_aux_lemma =>
        dsimp only at bX
        have bM := heap_new N hm
        have hO := hOh.out.new hh N
        obtain ⟨x0, x1, x2, x3, x4⟩ := cells5 bX
        obtain ⟨m0, m1, m2, m3⟩ := cells4 bM
        have mf := frozen_of_heap bM
        have bl := heap_lt bM
        have xl := heap_lt bX
        have zN := N.size
        obtain ⟨br, rfl, hr1, hr2, hrc, hrf, hset⟩ := hO.regs (by omega)
        have rc := Lib.hid hrc
        have rf := Lib.hid hrf
        have rs := Lib.hid hset
        have hOc := Lib.hid hO
        have rb := cell_lt (hrc 0 (by omega))
        clear hO hrc hrf hset bX bM
        have he := Lib.hid (show eff ⟨3, j, c, 0, 0⟩ ⟨p, yr, ya, yb⟩ = (⟨p + 1, yr, ya.set j (yr[c]), yb⟩, []) by simp [eff, put0_nat, at0_nat (show c < yr.length by omega)])
        have cc := rc.out c (by omega)
        obtain ⟨bv, rfl, hv1, hv2, vc, vf, vs⟩ := hOc.out.vals (by omega)
        have cj := vc j hj
        have vb := cell_lt cj
        have fj := vf j
        have vs2 := Lib.hid vs
        clear vc vf vs
        go_wp2_with fail
        go_region
        all_goals
          go_wp2
          go_ret
          rw [he.out]
          have kk : Kp (fun k => lo ≤ k ∧ k < hi ∨ w.heap.size ≤ k) we (we.setCell ⟨bv, j, none⟩ (.int .i64 (yr[c]))) := (Kp.refl _ _).setCell (p := ⟨bv, j, none⟩) (.inl (.inl ⟨by omega, by omega⟩)) _
          exact Post.drew (fin N hh hb hm kk (vs2.out j hj _) (hE.out.kp (S := fun x => x = bv) ((Kp.refl (fun x => x = bv) we).setCell (p := ⟨bv, j, none⟩) (.inl rfl) _) (fun x hx e => by have := (hE.out.lt x hx).1; omega)))
    | load a j c ha hj hc =>
      as_aux_lemma =>
        dsimp only at bX
        have bX0 := bX
        have bM := heap_new N hm
        have hO := hOh.out.new hh N
        obtain ⟨x0, x1, x2, x3, x4⟩ := cells5 bX
        obtain ⟨m0, m1, m2, m3⟩ := cells4 bM
        have mf := frozen_of_heap bM
        have bl := heap_lt bM
        have xl := heap_lt bX
        have zN := N.size
        obtain ⟨br, rfl, hr1, hr2, hrc, hrf, hset⟩ := hO.regs (by omega)
        have rc := Lib.hid hrc
        have rf := Lib.hid hrf
        have rs := Lib.hid hset
        have hOc := Lib.hid hO
        have rb := cell_lt (hrc 0 (by omega))
        clear hO hrc hrf hset bX bM
        have gc : 0 ≤ yr[c] ∧ yr[c] ≤ 255 := hkh.out.rv c (show c < yr.length by omega)
        obtain ⟨n, hn, hn2⟩ : ∃ n : Nat, yr[c] = n ∧ n ≤ 255 := ⟨yr[c].toNat, by omega, by omega⟩
        have cc := rc.out c (by omega)
        rw [hn] at cc
        go_upto_region 13 with fail
        go_cut [7] (fun p7 wf => ∃ v, p7 = v ∧ Kp (fun k => k = be) we wf ∧ OwnF 2 encE wf w.heap.size 68 v [(5, (p : Int)), (2, addr j n)])
        case first =>
          go_wp2_with (first | (go_at_call 64; refine (OpV.address _ _ _ (by omega) (by omega) (by omega) (by omega)).mono ?_; rintro e w1 ⟨rfl, rfl⟩) | (at_builtin; refine wpList_push rfl _ _ 32 rfl w.heap.size 68 _ 2 16 Try.underlying32 infoE rfl (by decide) _ _ rfl (hE.out.new ((Kp.refl _ _).alloc _)) _ _ (2, addr j n) rfl (newsE _ _ _ _) (oneE _) (by simp) (by simp) (size_alloc_le (by omega) _) ?_; intro v1 w1 hO1 hK1; have kf := app_kp hK1))
          go_meet
          exact ⟨v1, rfl, kf, hO1⟩
        case rest =>
        obtain ⟨ve, rfl, kf, hE2⟩ := hcut
        clear x0 x1 x2 x3 x4 m0 m1 m2 m3 mf bl xl rc rf rs hOc rb
        have N3 := N.on kf (fun i e => by omega)
        have bX := (kf.block _ (heap_lt bX0) (fun e => by omega)).trans bX0
        obtain ⟨wg, hwg⟩ : ∃ x, x = wc := ⟨_, rfl⟩
        subst hwg
        have hE4 := Lib.hid hE2
        clear hE2 hE N kf bX0
        have N := N3
        have hE := hE4
        clear N3 hE4
        have bM := heap_new N hm
        have hO := hOh.out.new hh N
        obtain ⟨x0, x1, x2, x3, x4⟩ := cells5 bX
        obtain ⟨m0, m1, m2, m3⟩ := cells4 bM
        have mf := frozen_of_heap bM
        have bl := heap_lt bM
        have xl := heap_lt bX
        have zN := N.size
        obtain ⟨br2, hbr, hr3, hr4, hrc, hrf, hset⟩ := hO.regs (by omega)
        have rc := Lib.hid hrc
        have rf := Lib.hid hrf
        have rs := Lib.hid hset
        have hOc := Lib.hid hO
        have rb := cell_lt (hrc 0 (by omega))
        cases hbr
        clear hO hrc hrf hset bX bM
        have rl4 : 4 ≤ yb[j].length := Nat.le_of_eq (hkh.out.ar j hj).symm
        have he := Lib.hid (show eff ⟨4, a, j, c, 0⟩ ⟨p, yr, ya, yb⟩ = (⟨p + 1, yr.set a (yb[j][n % 4]), ya, yb⟩, [(2, addr j n)]) by simp [eff, put0_nat, row0_nat hj, at0_nat (show c < yr.length by omega), hn, at0_mod (show n % 4 < yb[j].length by omega)])
        have ca := rc.out a (by omega)
        have fa := rf.out a
        obtain ⟨bo, bi, d7, rfl, hq1, hq2, oc1, hq3, hq4, qc, qf, qs⟩ := hOc.out.rows j hj (by omega)
        have ci := qc (n % 4) (by omega)
        have ob := cell_lt oc1
        have ib := cell_lt ci
        clear qc qf qs
        go_wp2_with fail
        go_region
        all_goals
          go_wp2
          go_ret
          rw [he.out]
          have kk : Kp (fun k => lo ≤ k ∧ k < hi ∨ w.heap.size ≤ k) wg (wg.setCell ⟨br, a, none⟩ (.int .i64 (yb[j][n % 4]))) := (Kp.refl _ _).setCell (p := ⟨br, a, none⟩) (.inl (.inl ⟨by omega, by omega⟩)) _
          exact Post.drew (fin N hh hb hm kk (rs.out a (by omega) _) (hE.out.kp (S := fun x => x = br) ((Kp.refl (fun x => x = br) wg).setCell (p := ⟨br, a, none⟩) (.inl rfl) _) (fun x hx e => by have := (hE.out.lt x hx).1; omega)))
    | store a j c ha hj hc =>
      as_aux_lemma =>
        dsimp only at bX
        have bX0 := bX
        have bM := heap_new N hm
        have hO := hOh.out.new hh N
        obtain ⟨x0, x1, x2, x3, x4⟩ := cells5 bX
        obtain ⟨m0, m1, m2, m3⟩ := cells4 bM
        have mf := frozen_of_heap bM
        have bl := heap_lt bM
        have xl := heap_lt bX
        have zN := N.size
        obtain ⟨br, rfl, hr1, hr2, hrc, hrf, hset⟩ := hO.regs (by omega)
        have rc := Lib.hid hrc
        have rf := Lib.hid hrf
        have rs := Lib.hid hset
        have hOc := Lib.hid hO
        have rb := cell_lt (hrc 0 (by omega))
        clear hO hrc hrf hset bX bM
        have gj : 0 ≤ yr[j] ∧ yr[j] ≤ 255 := hkh.out.rv j (show j < yr.length by omega)
        obtain ⟨n, hn, hn2⟩ : ∃ n : Nat, yr[j] = n ∧ n ≤ 255 := ⟨yr[j].toNat, by omega, by omega⟩
        have cj := rc.out j (by omega)
        rw [hn] at cj
        go_upto_region 17 with fail
        go_cut [7] (fun p7 wf => ∃ v, p7 = v ∧ Kp (fun k => k = be) we wf ∧ OwnF 2 encE wf w.heap.size 68 v [(5, (p : Int)), (3, addr a n)])
        case first =>
          go_wp2_with (first | (go_at_call 64; refine (OpV.address _ _ _ (by omega) (by omega) (by omega) (by omega)).mono ?_; rintro e w1 ⟨rfl, rfl⟩) | (at_builtin; refine wpList_push rfl _ _ 32 rfl w.heap.size 68 _ 2 16 Try.underlying32 infoE rfl (by decide) _ _ rfl (hE.out.new ((Kp.refl _ _).alloc _)) _ _ (3, addr a n) rfl (newsE _ _ _ _) (oneE _) (by simp) (by simp) (size_alloc_le (by omega) _) ?_; intro v1 w1 hO1 hK1; have kf := app_kp hK1))
          go_meet
          exact ⟨v1, rfl, kf, hO1⟩
        case rest =>
        obtain ⟨ve, rfl, kf, hE2⟩ := hcut
        clear x0 x1 x2 x3 x4 m0 m1 m2 m3 mf bl xl rc rf rs hOc rb
        have N3 := N.on kf (fun i e => by omega)
        have bX := (kf.block _ (heap_lt bX0) (fun e => by omega)).trans bX0
        obtain ⟨wg, hwg⟩ : ∃ x, x = wc := ⟨_, rfl⟩
        subst hwg
        have hE4 := Lib.hid hE2
        clear hE2 hE N kf bX0
        have N := N3
        have hE := hE4
        clear N3 hE4
        have bM := heap_new N hm
        have hO := hOh.out.new hh N
        obtain ⟨x0, x1, x2, x3, x4⟩ := cells5 bX
        obtain ⟨m0, m1, m2, m3⟩ := cells4 bM
        have mf := frozen_of_heap bM
        have bl := heap_lt bM
        have xl := heap_lt bX
        have zN := N.size
        obtain ⟨br2, hbr, hr3, hr4, hrc, hrf, hset⟩ := hO.regs (by omega)
        have rc := Lib.hid hrc
        have rf := Lib.hid hrf
        have rs := Lib.hid hset
        have hOc := Lib.hid hO
        have rb := cell_lt (hrc 0 (by omega))
        cases hbr
        clear hO hrc hrf hset bX bM
        have rl4 : 4 ≤ yb[a].length := Nat.le_of_eq (hkh.out.ar a ha).symm
        have he := Lib.hid (show eff ⟨5, a, j, c, 0⟩ ⟨p, yr, ya, yb⟩ = (⟨p + 1, yr, ya, yb.set a (yb[a].set (n % 4) (yr[c]))⟩, [(3, addr a n)]) by simp [eff, row0_nat ha, at0_nat (show c < yr.length by omega), at0_nat (show j < yr.length by omega), hn, put0_mod])
        have cc := rc.out c (by omega)
        obtain ⟨bo, bi, d7, rfl, hq1, hq2, oc1, hq3, hq4, qc, qf, qs⟩ := hOc.out.rows a ha (by omega)
        have ci := qc (n % 4) (by omega)
        have ob := cell_lt oc1
        have ib := cell_lt ci
        have fi := qf (n % 4)
        have qs2 := Lib.hid qs
        clear qc qf qs
        go_wp2_with fail
        go_region
        all_goals
          go_wp2
          go_ret
          rw [he.out]
          have kk : Kp (fun k => lo ≤ k ∧ k < hi ∨ w.heap.size ≤ k) wg (wg.setCell ⟨bi, n % 4, none⟩ (.int .i64 (yr[c]))) := (Kp.refl _ _).setCell (p := ⟨bi, n % 4, none⟩) (.inl (.inl ⟨by omega, by omega⟩)) _
          exact Post.drew (fin N hh hb hm kk (qs2.out (n % 4) (by omega) _) (hE.out.kp (S := fun x => x = bi) ((Kp.refl (fun x => x = bi) wg).setCell (p := ⟨bi, n % 4, none⟩) (.inl rfl) _) (fun x hx e => by have := (hE.out.lt x hx).1; omega)))
    | bin a k c d ha hk1 hk2 hc hd =>
      as_aux_lemma =>
        dsimp only at bX
        have bM := heap_new N hm
        have hO := hOh.out.new hh N
        obtain ⟨x0, x1, x2, x3, x4⟩ := cells5 bX
        obtain ⟨m0, m1, m2, m3⟩ := cells4 bM
        have mf := frozen_of_heap bM
        have bl := heap_lt bM
        have xl := heap_lt bX
        have zN := N.size
        obtain ⟨br, rfl, hr1, hr2, hrc, hrf, hset⟩ := hO.regs (by omega)
        have rc := Lib.hid hrc
        have rf := Lib.hid hrf
        have rs := Lib.hid hset
        have hOc := Lib.hid hO
        have rb := cell_lt (hrc 0 (by omega))
        clear hO hrc hrf hset bX bM
        have gc : 0 ≤ yr[c] ∧ yr[c] ≤ 255 := hkh.out.rv c (show c < yr.length by omega)
        have gd : 0 ≤ yr[d] ∧ yr[d] ≤ 255 := hkh.out.rv d (show d < yr.length by omega)
        have he := Lib.hid (show eff ⟨6, a, k, c, d⟩ ⟨p, yr, ya, yb⟩ = (⟨p + 1, yr.set a (binV k (yr[c]) (yr[d])), ya, yb⟩, []) by simp [eff, put0_nat, at0_nat (show c < yr.length by omega), at0_nat (show d < yr.length by omega)])
        have ca := rc.out a (by omega)
        have fa := rf.out a
        have cc := rc.out c (by omega)
        have cd := rc.out d (by omega)
        have lc1 : c < yr.length := by omega
        have ld1 : d < yr.length := by omega
        have la1 : a < yr.length := by omega
        go_wp2_with fail
        refine wp_region_tail (k := 17) (S := fun w' => w'.cell? ⟨bx, 1, none⟩ = some (.int .i64 a) ∧ w'.cell? ⟨bx, 2, none⟩ = some (.int .i64 k) ∧ w'.cell? ⟨bx, 3, none⟩ = some (.int .i64 c) ∧ w'.cell? ⟨bx, 4, none⟩ = some (.int .i64 d) ∧ w'.cell? ⟨br, c, none⟩ = some (.int .i64 yr[c]) ∧ w'.cell? ⟨br, d, none⟩ = some (.int .i64 yr[d])) (by kernel_rfl) ?_ (fun hHeld => ?_)
        · exact ⟨x1, x2, x3, x4, cc, cd⟩
        refine AnyK.tw 0 rfl ?_
        try simp only [AP]
        refine AnyK.tw 1 rfl ?_
        try simp only [AP]
        refine AnyK.tk 2 rfl ?_
        try simp only [AP]
        refine AnyK.tw 3 rfl ?_
        try simp only [AP]
        refine AnyK.tk 4 rfl ?_
        try simp only [AP]
        refine AnyK.tw 5 rfl ?_
        try simp only [AP]
        refine AnyK.tw 6 rfl ?_
        try simp only [AP]
        refine AnyK.tk 7 rfl ?_
        try simp only [AP]
        refine AnyK.tw 8 rfl ?_
        try simp only [AP]
        refine AnyK.tk 9 rfl ?_
        try simp only [AP]
        refine AnyK.tw 10 rfl ?_
        try simp only [AP]
        refine AnyK.tw 11 rfl ?_
        try simp only [AP]
        refine AnyK.tk 12 rfl ?_
        try simp only [AP]
        refine AnyK.tw 13 rfl ?_
        try simp only [AP]
        refine AnyK.tk 14 rfl ?_
        try simp only [AP]
        refine AnyK.step (i := 15) (by kernel_rfl) rfl (fun K hK => ?_)
        go_simp
        refine (OpV.operate _ _ _ _ (by omega) (by omega) (by omega) (by omega) (by omega) (by omega)).mono ?_
        rintro e w1 ⟨rfl, rfl⟩
        refine hK.out _ _ ?_ (fun hHeld2 => ?_)
        · exact ⟨x1, x2, x3, x4, cc, cd⟩
        clear hK K hHeld
        have hHeld := hHeld2
        clear hHeld2
        try simp only [AP]
        refine AnyK.tw 16 rfl ?_
        try simp only [AP]
        refine AnyK.last (by kernel_rfl) ?_
        simp only [List.drop_succ_cons, List.drop_zero]
        clear hHeld
        go_wp2
        go_ret
        rw [he.out]
        have kk : Kp (fun k => lo ≤ k ∧ k < hi ∨ w.heap.size ≤ k) we (we.setCell ⟨br, a, none⟩ (.int .i64 (binV k (yr[c]) (yr[d])))) := (Kp.refl _ _).setCell (p := ⟨br, a, none⟩) (.inl (.inl ⟨by omega, by omega⟩)) _
        exact Post.drew (fin N hh hb hm kk (rs.out a (by omega) _) (hE.out.kp (S := fun x => x = br) ((Kp.refl (fun x => x = br) we).setCell (p := ⟨br, a, none⟩) (.inl rfl) _) (fun x hx e => by have := (hE.out.lt x hx).1; omega)))
    | sel a j c d ha hj hc hd =>
      as_aux_lemma =>
        dsimp only at bX
        have bM := heap_new N hm
        have hO := hOh.out.new hh N
        obtain ⟨x0, x1, x2, x3, x4⟩ := cells5 bX
        obtain ⟨m0, m1, m2, m3⟩ := cells4 bM
        have mf := frozen_of_heap bM
        have bl := heap_lt bM
        have xl := heap_lt bX
        have zN := N.size
        obtain ⟨br, rfl, hr1, hr2, hrc, hrf, hset⟩ := hO.regs (by omega)
        have rc := Lib.hid hrc
        have rf := Lib.hid hrf
        have rs := Lib.hid hset
        have hOc := Lib.hid hO
        have rb := cell_lt (hrc 0 (by omega))
        clear hO hrc hrf hset bX bM
        have ca := rc.out a (by omega)
        have fa := rf.out a
        have cj := rc.out j (by omega)
        have cc := rc.out c (by omega)
        have cd := rc.out d (by omega)
        by_cases h0 : yr[j] = 0
        · have he := Lib.hid (show eff ⟨7, a, j, c, d⟩ ⟨p, yr, ya, yb⟩ = (⟨p + 1, yr.set a (yr[d]), ya, yb⟩, []) by simp [eff, put0_nat, at0_nat (show j < yr.length by omega), at0_nat (show d < yr.length by omega), h0])
          go_wp2_with fail
          go_region
          all_goals
            go_wp2
            go_ret
            rw [he.out]
            have kk : Kp (fun k => lo ≤ k ∧ k < hi ∨ w.heap.size ≤ k) we (we.setCell ⟨br, a, none⟩ (.int .i64 (yr[d]))) := (Kp.refl _ _).setCell (p := ⟨br, a, none⟩) (.inl (.inl ⟨by omega, by omega⟩)) _
            exact Post.drew (fin N hh hb hm kk (rs.out a (by omega) _) (hE.out.kp (S := fun x => x = br) ((Kp.refl (fun x => x = br) we).setCell (p := ⟨br, a, none⟩) (.inl rfl) _) (fun x hx e => by have := (hE.out.lt x hx).1; omega)))
        · have he := Lib.hid (show eff ⟨7, a, j, c, d⟩ ⟨p, yr, ya, yb⟩ = (⟨p + 1, yr.set a (yr[c]), ya, yb⟩, []) by simp [eff, put0_nat, at0_nat (show j < yr.length by omega), at0_nat (show c < yr.length by omega), h0])
          go_wp2_with fail
          go_region
          all_goals
            go_wp2
            go_ret
            rw [he.out]
            have kk : Kp (fun k => lo ≤ k ∧ k < hi ∨ w.heap.size ≤ k) we (we.setCell ⟨br, a, none⟩ (.int .i64 (yr[c]))) := (Kp.refl _ _).setCell (p := ⟨br, a, none⟩) (.inl (.inl ⟨by omega, by omega⟩)) _
            exact Post.drew (fin N hh hb hm kk (rs.out a (by omega) _) (hE.out.kp (S := fun x => x = br) ((Kp.refl (fun x => x = br) we).setCell (p := ⟨br, a, none⟩) (.inl rfl) _) (fun x hx e => by have := (hE.out.lt x hx).1; omega)))
    | jump a ha =>
      as_aux_lemma =>
        dsimp only at bX
        have bM := heap_new N hm
        have hO := hOh.out.new hh N
        obtain ⟨x0, x1, x2, x3, x4⟩ := cells5 bX
        obtain ⟨m0, m1, m2, m3⟩ := cells4 bM
        have mf := frozen_of_heap bM
        have bl := heap_lt bM
        have xl := heap_lt bX
        have zN := N.size
        obtain ⟨br, rfl, hr1, hr2, hrc, hrf, hset⟩ := hO.regs (by omega)
        have rc := Lib.hid hrc
        have rf := Lib.hid hrf
        have rs := Lib.hid hset
        have hOc := Lib.hid hO
        have rb := cell_lt (hrc 0 (by omega))
        clear hO hrc hrf hset bX bM
        have he := Lib.hid (show eff ⟨8, a, 0, 0, 0⟩ ⟨p, yr, ya, yb⟩ = (⟨a, yr, ya, yb⟩, []) by simp [eff])
        go_wp2
        go_ret
        rw [he.out]
        exact (fin N hh hb hm ((Kp.refl (fun k => lo ≤ k ∧ k < hi ∨ w.heap.size ≤ k) we)) hOc.out hE.out)
    | zero a j ha hj =>
      as_aux_lemma =>
        dsimp only at bX
        have bM := heap_new N hm
        have hO := hOh.out.new hh N
        obtain ⟨x0, x1, x2, x3, x4⟩ := cells5 bX
        obtain ⟨m0, m1, m2, m3⟩ := cells4 bM
        have mf := frozen_of_heap bM
        have bl := heap_lt bM
        have xl := heap_lt bX
        have zN := N.size
        obtain ⟨br, rfl, hr1, hr2, hrc, hrf, hset⟩ := hO.regs (by omega)
        have rc := Lib.hid hrc
        have rf := Lib.hid hrf
        have rs := Lib.hid hset
        have hOc := Lib.hid hO
        have rb := cell_lt (hrc 0 (by omega))
        clear hO hrc hrf hset bX bM
        have ca := rc.out a (by omega)
        by_cases h0 : yr[a] = 0
        · have he := Lib.hid (show eff ⟨9, a, j, 0, 0⟩ ⟨p, yr, ya, yb⟩ = (⟨j, yr, ya, yb⟩, []) by simp [eff, at0_nat (show a < yr.length by omega), h0])
          go_wp2
          go_ret
          rw [he.out]
          exact (fin N hh hb hm ((Kp.refl (fun k => lo ≤ k ∧ k < hi ∨ w.heap.size ≤ k) we)) hOc.out hE.out)
        · have he := Lib.hid (show eff ⟨9, a, j, 0, 0⟩ ⟨p, yr, ya, yb⟩ = (⟨p + 1, yr, ya, yb⟩, []) by simp [eff, at0_nat (show a < yr.length by omega), h0])
          go_wp2
          go_ret
          rw [he.out]
          exact (fin N hh hb hm ((Kp.refl (fun k => lo ≤ k ∧ k < hi ∨ w.heap.size ≤ k) we)) hOc.out hE.out)
    | loop a j ha hj =>
      as_aux_lemma =>
        dsimp only at bX
        have bM := heap_new N hm
        have hO := hOh.out.new hh N
        obtain ⟨x0, x1, x2, x3, x4⟩ := cells5 bX
        obtain ⟨m0, m1, m2, m3⟩ := cells4 bM
        have mf := frozen_of_heap bM
        have bl := heap_lt bM
        have xl := heap_lt bX
        have zN := N.size
        obtain ⟨br, rfl, hr1, hr2, hrc, hrf, hset⟩ := hO.regs (by omega)
        have rc := Lib.hid hrc
        have rf := Lib.hid hrf
        have rs := Lib.hid hset
        have hOc := Lib.hid hO
        have rb := cell_lt (hrc 0 (by omega))
        clear hO hrc hrf hset bX bM
        have ga : 0 ≤ yr[a] ∧ yr[a] ≤ 255 := hkh.out.rv a (show a < yr.length by omega)
        have ca := rc.out a (by omega)
        have fa := rf.out a
        by_cases h0 : (yr[a] + 255) % 256 = 0
        · have he := Lib.hid (show eff ⟨10, a, j, 0, 0⟩ ⟨p, yr, ya, yb⟩ = (⟨p + 1, yr.set a (0), ya, yb⟩, []) by simp [eff, put0_nat, at0_nat (show a < yr.length by omega), h0])
          go_wp2_with fail
          go_region
          all_goals
            go_wp2
            go_ret
            rw [he.out]
            have kk : Kp (fun k => lo ≤ k ∧ k < hi ∨ w.heap.size ≤ k) we (we.setCell ⟨br, a, none⟩ (.int .i64 (0))) := (Kp.refl _ _).setCell (p := ⟨br, a, none⟩) (.inl (.inl ⟨by omega, by omega⟩)) _
            exact Post.drew (fin N hh hb hm kk (rs.out a (by omega) _) (hE.out.kp (S := fun x => x = br) ((Kp.refl (fun x => x = br) we).setCell (p := ⟨br, a, none⟩) (.inl rfl) _) (fun x hx e => by have := (hE.out.lt x hx).1; omega)))
        · have he := Lib.hid (show eff ⟨10, a, j, 0, 0⟩ ⟨p, yr, ya, yb⟩ = (⟨j, yr.set a ((yr[a] + 255) % 256), ya, yb⟩, []) by simp [eff, put0_nat, at0_nat (show a < yr.length by omega), h0])
          go_wp2_with fail
          go_region
          all_goals
            go_wp2
            go_ret
            rw [he.out]
            have kk : Kp (fun k => lo ≤ k ∧ k < hi ∨ w.heap.size ≤ k) we (we.setCell ⟨br, a, none⟩ (.int .i64 ((yr[a] + 255) % 256))) := (Kp.refl _ _).setCell (p := ⟨br, a, none⟩) (.inl (.inl ⟨by omega, by omega⟩)) _
            exact Post.drew (fin N hh hb hm kk (rs.out a (by omega) _) (hE.out.kp (S := fun x => x = br) ((Kp.refl (fun x => x = br) we).setCell (p := ⟨br, a, none⟩) (.inl rfl) _) (fun x hx e => by have := (hE.out.lt x hx).1; omega)))
    | rel a ha =>
      as_aux_lemma =>
        dsimp only at bX
        have bX0 := bX
        have bM0 := heap_new N hm
        have hbw0 := heap_lt hm
        have bM := heap_new N hm
        have hO := hOh.out.new hh N
        obtain ⟨x0, x1, x2, x3, x4⟩ := cells5 bX
        obtain ⟨m0, m1, m2, m3⟩ := cells4 bM
        have mf := frozen_of_heap bM
        have bl := heap_lt bM
        have xl := heap_lt bX
        have zN := N.size
        obtain ⟨br, rfl, hr1, hr2, hrc, hrf, hset⟩ := hO.regs (by omega)
        have rc := Lib.hid hrc
        have rf := Lib.hid hrf
        have rs := Lib.hid hset
        have hOc := Lib.hid hO
        have rb := cell_lt (hrc 0 (by omega))
        clear hO hrc hrf hset bX bM
        have ca := rc.out a (by omega)
        have he := Lib.hid (show eff ⟨11, a, 0, 0, 0⟩ ⟨p, yr, ya, yb⟩ = (⟨p + 1, yr, ya, yb⟩, [(4, yr[a])]) by simp [eff, at0_nat (show a < yr.length by omega)])
        go_wp2_with (at_builtin; refine wpList_push rfl _ _ 32 rfl w.heap.size 68 _ 2 16 Try.underlying32 infoE rfl (by decide) _ _ rfl (hE.out.new ((Kp.refl _ _).alloc _)) _ _ (4, yr[a]) rfl (newsE _ _ _ _) (oneE _) (by simp) (by simp) (size_alloc_le zN _) ?_; intro v1 w1 hO1 hK1; have kf := app_kp hK1; have hEv := Lib.hid hO1; clear hO1 hK1; have bM1 := (kf.block _ bl (fun e => by omega)).trans bM0; have n0 := cell_of_heap bM1 0; have nf := frozen_of_heap bM1; have hO1 := Lib.hid (hOc.out.kp kf (fun i e => by omega)))
        go_ret
        rw [he.out]
        exact fin N hh hb hm (kf.mono (fun i _ e => by subst e; exact .inr (by omega))) hO1.out hEv.out
    | fence =>
      as_aux_lemma =>
        dsimp only at bX
        have bM := heap_new N hm
        have hO := hOh.out.new hh N
        obtain ⟨x0, x1, x2, x3, x4⟩ := cells5 bX
        obtain ⟨m0, m1, m2, m3⟩ := cells4 bM
        have mf := frozen_of_heap bM
        have bl := heap_lt bM
        have xl := heap_lt bX
        have zN := N.size
        obtain ⟨br, rfl, hr1, hr2, hrc, hrf, hset⟩ := hO.regs (by omega)
        have rc := Lib.hid hrc
        have rf := Lib.hid hrf
        have rs := Lib.hid hset
        have hOc := Lib.hid hO
        have rb := cell_lt (hrc 0 (by omega))
        clear hO hrc hrf hset bX bM
        have he := Lib.hid (show eff ⟨12, 0, 0, 0, 0⟩ ⟨p, yr, ya, yb⟩ = (⟨p + 1, yr, ya, yb⟩, []) by simp [eff])
        go_wp2
        go_ret
        rw [he.out]
        exact (fin N hh hb hm ((Kp.refl (fun k => lo ≤ k ∧ k < hi ∨ w.heap.size ≤ k) we)) hOc.out hE.out)
    | halt =>
      as_aux_lemma =>
        dsimp only at bX
        have bM := heap_new N hm
        have hO := hOh.out.new hh N
        obtain ⟨x0, x1, x2, x3, x4⟩ := cells5 bX
        obtain ⟨m0, m1, m2, m3⟩ := cells4 bM
        have mf := frozen_of_heap bM
        have bl := heap_lt bM
        have xl := heap_lt bX
        have zN := N.size
        obtain ⟨br, rfl, hr1, hr2, hrc, hrf, hset⟩ := hO.regs (by omega)
        have rc := Lib.hid hrc
        have rf := Lib.hid hrf
        have rs := Lib.hid hset
        have hOc := Lib.hid hO
        have rb := cell_lt (hrc 0 (by omega))
        clear hO hrc hrf hset bX bM
        have he := Lib.hid (show eff ⟨13, 0, 0, 0, 0⟩ ⟨p, yr, ya, yb⟩ = (⟨p, yr, ya, yb⟩, []) by simp [eff])
        go_wp2
        go_ret
        rw [he.out]
        exact (fin N hh hb hm ((Kp.refl (fun k => lo ≤ k ∧ k < hi ∨ w.heap.size ≤ k) we)) hOc.out hE.out)
end Go.Proofs.Ytbicpkmlionldaa.StepW
