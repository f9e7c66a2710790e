/- The code of statements by impl. Conditions: the statements are valid; bounds on lengths. -/
import Derived.Test.YtckikiaockkmbaaUCmpJ
import Derived.Test.YtckikiaockkmbaaUCmpQ
import Derived.Test.YtckikiaockkmbaaUEachP
import Derived.Test.YtckikiaockkmbaaUP4
import Derived.StillTailTactics
namespace Go.Proofs.Ytckikiaockkmbaa.CmpL
open Go.RowKit Kit Val CmpP CmpI CmpJ
set_option linter.unusedVariables false
/-- what the code of statements answers: the numbers of the variable are turned, too -/
def Es (w : World) (base p : Nat) (vl vf : Value) (M : List Ins) (top : Int) (e : Ending) (w' : World) : Prop := e = .returned (.tuple #[]) ∧ ∃ ul uf o n, CI w base p vl vf M ul uf o n w' ∧ 0 ≤ n ∧ n ≤ top
/-- one cell of the code is written -/
theorem _root_.Go.Proofs.Ytckikiaockkmbaa.CmpI.CI.patch {w wr : World} {base p : Nat} {vl vf ul uf : Value} {M : List Ins} {o n : Int} (h : CI w base p vl vf M ul uf o n wr) (j : Nat) (hj : j < M.length) : ∃ b d, ul = .slice (some ⟨b, 0, none⟩) M.length d ∧ b < wr.heap.size ∧ M.length ≤ d ∧ d ≤ maxLen ∧ (∀ q, wr.frozen? ⟨b, q, none⟩ = false) ∧
    ∀ t, t < 5 → ∃ v, wr.cell? ⟨b, j * 5 + t, none⟩ = some v ∧ ∀ (y : Ins) (u : Value), (∀ q, q < 5 → encN y q = if q = t then u else encN M[j] q) → CI w base p vl vf (M.set j y) ul uf o n (wr.setCell ⟨b, j * 5 + t, none⟩ u) := by
  obtain ⟨F, K, P, A, B, hl, g1, g2⟩ := h
  rcases A.form with ⟨e, _⟩ | ⟨b, cap, cs, rfl, hb1, hb2, hb3, hh, hs, hc⟩
  · subst e; exact absurd hj (Nat.not_lt_zero _)
  · refine ⟨b, cap, rfl, heap_lt hh, hb2, hb3, fun q => frozen_of_heap hh q, fun t ht => ⟨_, (cell_of_heap hh _).trans (hc j hj t ht), fun y u hu => ?_⟩⟩
    have kk : Kp (fun c => c = b) wr (wr.setCell ⟨b, j * 5 + t, none⟩ u) := (Kp.refl (fun c => c = b) _).setCell (.inl rfl) _
    have hpb : p ≠ b := fun e => by subst e; rw [P] at hh; cases hh
    refine ⟨F, K.over kk fun i q => (g1 i (by rw [q]; rfl)).elim (fun e => .inl (.inr (.inl e))) .inr, (kk.block p (heap_lt P) hpb).trans P, ?_, B.kp kk fun c e1 e2 => by subst e2; exact OwnF.apart A B (by decide) _ rfl e1, by rw [List.length_set]; exact hl, g1, g2⟩
    have := OwnF.mk' (enc := encN) (n := 5) (xs := M.set j y) (base := base) (setCell_heap (o := j * 5 + t) hh u) hb1 (by simpa using hb2) hb3 (by simpa using hs) (fun i hi q hq => by
      have hi2 : i < M.length := by simpa using hi
      rw [Array.getElem?_setIfInBounds]
      by_cases e : j = i
      · subst e
        rw [List.getElem_set_self, hu q hq]
        by_cases e2 : q = t
        · subst e2
          have hlt : j * 5 + q < cs.size := by omega
          simp [hlt]
        · rw [if_neg (by omega), if_neg e2]; exact hc j hj q hq
      · rw [List.getElem_set_ne e, if_neg (by omega)]; exact hc i hi2 q hq)
    rw [List.length_set] at this
    exact this
/-- what a round of the statements' loop holds: the variable, the statement's box, what it leads to -/
def Hd (w : World) (base p : Nat) (vl vf : Value) (lo hi bs : Nat) (x : St) (V : Array Value) (si sv sb se : Value) (M : List Ins) (ul uf : Value) (o n : Int) (wr : World) : Prop := CI w base p vl vf M ul uf o n wr ∧ wr.heap[bs]? = some (.cells V 74 (0, 0)) ∧ KidsR wr lo hi si x.index.kids ∧ KidsR wr lo hi sv x.value.kids ∧ StsR wr lo hi sb x.body ∧ StsR wr lo hi se x.els
theorem Hd.step {w wr w2 : World} {base p lo hi bs : Nat} {vl vf si sv sb se ul uf ul' uf' : Value} {x : St} {V : Array Value} {M M' : List Ins} {o n o' n' : Int} (h : Hd w base p vl vf lo hi bs x V si sv sb se M ul uf o n wr) (hbp : base ≤ p) (hb1 : hi ≤ base) (hbw : base ≤ w.heap.size) (k : CI wr base p ul uf M' ul' uf' o' n' w2) : Hd w base p vl vf lo hi bs x V si sv sb se M' ul' uf' o' n' w2 := by
  obtain ⟨C, T, a, b, c, d⟩ := h
  have z := C.size
  exact ⟨C.trans k, k.box C.start T (by decide) (by decide) (by decide), k.kids C.start hbp hb1 (by omega) a, k.kids C.start hbp hb1 (by omega) b, k.sts C.start hbp hb1 (by omega) c, k.sts C.start hbp hb1 (by omega) d⟩
set_option maxHeartbeats 16000000 in
set_option maxRecDepth 100000 in
theorem stmts (lo hi base nv na : Nat) (hb1 : hi ≤ base) : ∀ (N : Nat) (w : World) (p : Nat) (vl vf : Value) (L : List Ins) (o n : Int) (tc : Value) (l : List St) (d m : Nat), St.sizes l < N → blB nv na l m = true → m + d ≤ 5 → base ≤ w.heap.size → base ≤ p → CI w base p vl vf L vl vf o n w → StsR w lo hi tc l → L.length + 4 * St.sizes l + 1 ≤ 1000000 → 0 ≤ n → n + St.sizes l ≤ 1000000 →
    Calls Try.prog 119 #[.pointer (some ⟨p, 0, none⟩), tc, .int .i64 d] w (Es w base p vl vf (L ++ csts l L.length d) (n + St.sizes l)) := by
  intro N
  induction N with
  | zero => intro w p vl vf L o n tc l d m h; exact absurd h (Nat.not_lt_zero _)
  | succ N ih =>
    intro w p vl vf L o n tc l d m hn hv hmd hbw hbp h hs hL h0 hn1
    have hst := Lib.hid h
    have hsr0 := Lib.hid hs
    obtain ⟨a3, d3, rfl, hkl⟩ := hs.len
    have C0 := Lib.hid h
    have hvh := Lib.hid hv
    have ihh := Lib.hid ih
    have hll := St.length_sizes l
    clear h hs hv ih
    go_enter Try.func119, Try.ntmps119
    go_upto_region 1 with fail
    go_loopw [15] (fun i wr => ∃ (j : Nat) (ul uf : Value) (o' n' : Int), j ≤ l.length ∧ i = .int .i64 j ∧ CI w base p vl vf (L ++ csts (l.take j) L.length d) ul uf o' n' wr ∧ 0 ≤ n' ∧ n' ≤ n + St.sizes (l.take j)) (fun i _ => l.length - (intOf i).toNat)
    case atStart => exact ⟨0, vl, vf, o, n, Nat.zero_le _, rfl, by simpa [csts] using C0.out, h0, by simp [St.sizes]⟩
    case round =>
      obtain ⟨j, ul, uf, o', n', hj, rfl, C, hn0, hn2⟩ := hrel
      have Ch := Lib.hid C
      have zw := C.size
      clear C C0
      by_cases hlt : j < l.length
      · obtain ⟨b', o'', vi, vv, vb, ve, e, A⟩ := hsr0.out.elem j hlt
        cases e
        have hb2 := A.hhi
        have g0 := (Ch.out.low2 hst.out hbp (b := b') (by omega) (by omega) (o'' + j * 11)).trans A.c0
        have g1 := (Ch.out.low2 hst.out hbp (b := b') (by omega) (by omega) (o'' + j * 11 + 1)).trans A.c1
        have g2 := (Ch.out.low2 hst.out hbp (b := b') (by omega) (by omega) (o'' + j * 11 + 2)).trans A.c2
        have g3 := (Ch.out.low2 hst.out hbp (b := b') (by omega) (by omega) (o'' + j * 11 + 3)).trans A.c3
        have g4 := (Ch.out.low2 hst.out hbp (b := b') (by omega) (by omega) (o'' + j * 11 + 4)).trans A.c4
        have g5 := (Ch.out.low2 hst.out hbp (b := b') (by omega) (by omega) (o'' + j * 11 + 5)).trans A.c5
        have g6 := (Ch.out.low2 hst.out hbp (b := b') (by omega) (by omega) (o'' + j * 11 + 6)).trans A.c6
        have g7 := (Ch.out.low2 hst.out hbp (b := b') (by omega) (by omega) (o'' + j * 11 + 7)).trans A.c7
        have g8 := (Ch.out.low2 hst.out hbp (b := b') (by omega) (by omega) (o'' + j * 11 + 8)).trans A.c8
        have g9 := (Ch.out.low2 hst.out hbp (b := b') (by omega) (by omega) (o'' + j * 11 + 9)).trans A.c9
        have g10 := (Ch.out.low2 hst.out hbp (b := b') (by omega) (by omega) (o'' + j * 11 + 10)).trans A.c10
        have k1 := Lib.hid (Ch.out.kids hst.out hbp (by omega) (by omega) A.ri)
        have k2 := Lib.hid (Ch.out.kids hst.out hbp (by omega) (by omega) A.rv)
        have k3 := Lib.hid (Ch.out.sts hst.out hbp (by omega) (by omega) A.rb)
        have k4 := Lib.hid (Ch.out.sts hst.out hbp (by omega) (by omega) A.re)
        have hp := St.parts_get l j hlt
        have hvx := Lib.hid (blB_get nv na m hvh.out j hlt)
        have hcx := Lib.hid (csts_step hlt L (d : Int))
        have hszt := St.sizes_take_succ l j hlt
        have hszl : St.sizes (l.take (j + 1)) ≤ St.sizes l := by rw [St.sizes_take_drop l (j + 1)]; omega
        have hcl := csts_le (l.take j) L.length (d : Int)
        have hML : (L ++ csts (l.take j) L.length (d : Int)).length = L.length + (csts (l.take j) L.length (d : Int)).length := List.length_append
        obtain ⟨x, hx⟩ : ∃ x, l[j] = x := ⟨_, rfl⟩
        rw [hx] at k1 k2 k3 k4 hp hvx hcx hszt g0 g1 g2 g3 g5 g6 g8
        obtain ⟨M, hM⟩ : ∃ M, L ++ csts (l.take j) L.length (d : Int) = M := ⟨_, rfl⟩
        rw [hM] at Ch hML hcx
        have hMs : M.length + 4 * x.size + 1 ≤ 1000000 := by have := St.size_eq x; omega
        have hns : n' + 1 + (St.sizes x.body + St.sizes x.els) ≤ 1000000 := by omega
        have hnt : n' + 1 + (St.sizes x.body + St.sizes x.els) ≤ n + (St.sizes (l.take (j + 1)) : Int) := by omega
        have hbz : St.sizes x.body < N := by omega
        have hez : St.sizes x.els < N := by omega
        have hxs := St.size_eq x
        have hvs := Ex.size_kids x.value
        have his := Ex.size_kids x.index
        obtain ⟨ai, di, rfl, _⟩ := k1.out.len
        obtain ⟨av, dv, rfl, _⟩ := k2.out.len
        obtain ⟨ab, db, rfl, _⟩ := k3.out.len
        obtain ⟨ae, de, rfl, _⟩ := k4.out.len
        clear A hx hM hcl hML hszt hszl hkl
        have hsub := Val.stB_sub hvx.out
        have hval := Val.stB_val hvx.out
        have hd1 := hsub.1
        have hbB := Lib.hid hsub.2.1
        have heB := Lib.hid hsub.2.2.1
        have hrv := Lib.hid hval.1
        have hri := Lib.hid hval.2.1
        have hk1 := hval.2.2.2.2.1
        have hk5 := hval.2.2.2.2.2
        clear hsub hval
        have hxe := Lib.hid (St.eta x)
        have kd : New wr (wr.alloc (.cells #[.int .i64 x.kind, .int .i64 x.target, .int .i64 x.index.kind, .int .i64 x.index.val, .slice ai x.index.kids.length di, .int .i64 x.value.kind, .int .i64 x.value.val, .slice av x.value.kids.length dv, .int .i64 x.count, .slice ab x.body.length db, .slice ae x.els.length de] 74)) := (Kp.refl _ _).alloc _
        have bT := alloc_heap wr (.cells #[.int .i64 x.kind, .int .i64 x.target, .int .i64 x.index.kind, .int .i64 x.index.val, .slice ai x.index.kids.length di, .int .i64 x.value.kind, .int .i64 x.value.val, .slice av x.value.kids.length dv, .int .i64 x.count, .slice ab x.body.length db, .slice ae x.els.length de] 74)
        have C1 := Lib.hid (Ch.out.new kd)
        have j1 := Lib.hid (k1.out.new (by omega) kd)
        have j2 := Lib.hid (k2.out.new (by omega) kd)
        have j3 := Lib.hid (k3.out.new (by omega) kd)
        have j4 := Lib.hid (k4.out.new (by omega) kd)
        have cP3 := cell_of_heap C1.out.cells 3
        have cPf := frozen_of_heap C1.out.cells
        have z1 := kd.size
        have zb := heap_lt bT
        clear k1 k2 k3 k4 Ch kd
        go_upto_region 4 with fail
        generalize wr.alloc (.cells #[.int .i64 x.kind, .int .i64 x.target, .int .i64 x.index.kind, .int .i64 x.index.val, .slice ai x.index.kids.length di, .int .i64 x.value.kind, .int .i64 x.value.val, .slice av x.value.kids.length dv, .int .i64 x.count, .slice ab x.body.length db, .slice ae x.els.length de] 74) = w1 at *
        generalize hbs : wr.heap.size = bs at *
        clear hbs
        have H1 := Lib.hid (show Hd w base p vl vf lo hi bs x #[.int .i64 x.kind, .int .i64 x.target, .int .i64 x.index.kind, .int .i64 x.index.val, .slice ai x.index.kids.length di, .int .i64 x.value.kind, .int .i64 x.value.val, .slice av x.value.kids.length dv, .int .i64 x.count, .slice ab x.body.length db, .slice ae x.els.length de] (.slice ai x.index.kids.length di) (.slice av x.value.kids.length dv) (.slice ab x.body.length db) (.slice ae x.els.length de) M ul uf o' n' w1 from ⟨C1.out, bT, j1.out, j2.out, j3.out, j4.out⟩)
        clear C1 bT j1 j2 j3 j4 cP3 cPf g0 g1 g2 g3 g4 g5 g6 g7 g8 g9 g10
        have cP3 := cell_of_heap H1.out.1.cells 3
        have fP := frozen_of_heap H1.out.1.cells
        have lP := heap_lt H1.out.1.cells
        have K2 : CI w1 base p ul uf M ul uf o' (n' + 1) (w1.setCell ⟨p, 3, none⟩ (.int .i64 (n' + 1))) := H1.out.1.start.num (j := 3) rfl
        go_upto_region 5 with fail
        generalize w1.setCell ⟨p, 3, none⟩ (.int .i64 (n' + 1)) = w2 at *
        have H2 := Lib.hid (H1.out.step hbp hb1 hbw K2)
        have z2 := K2.size
        clear K2 H1 cP3 fP lP
        have cP2 := cell_of_heap H2.out.1.cells 2
        have fP := frozen_of_heap H2.out.1.cells
        have lP := heap_lt H2.out.1.cells
        have K3 : CI w2 base p ul uf M ul uf n' (n' + 1) (w2.setCell ⟨p, 2, none⟩ (.int .i64 n')) := H2.out.1.start.num (j := 2) rfl
        go_upto_region 6 with fail
        generalize w2.setCell ⟨p, 2, none⟩ (.int .i64 n') = w3 at *
        have H3 := Lib.hid (H2.out.step hbp hb1 hbw K3)
        have z3 := K3.size
        clear K3 H2 cP2 fP lP
        rcases (show x.kind = 1 ∨ x.kind = 5 ∨ x.kind = 2 ∨ x.kind = 3 ∨ x.kind = 4 by omega) with q | q | q | q | q
        all_goals have hq := Lib.hid q
        all_goals clear q hk1 hk5
        · as_aux_lemma =>
            have cT0 : w3.cell? ⟨bs, 0, none⟩ = some (.int .i64 1) := by rw [← hq.out]; exact cell_of_heap H3.out.2.1 0
            have cT5 := cell_of_heap H3.out.2.1 5
            have cT6 := cell_of_heap H3.out.2.1 6
            have cT7 := cell_of_heap H3.out.2.1 7
            go_wp2_with fail
            refine (CmpJ.expr lo hi base nv na hb1 (Ex.sizes x.value.kids + 1) w3 5 p ul uf M n' (n' + 1) (.slice av x.value.kids.length dv) x.value.kind x.value.val x.value.kids 0 (Nat.lt_succ_self _) (by rw [Ex.eta']; exact (EvP.right_shp (hrv.out (by have := hq.out; omega))).1) (by omega) hbp H3.out.1.start H3.out.2.2.2.1 (by omega) (by omega)).mono ?_
            rintro e w4 ⟨rfl, ul4, uf4, K4⟩
            rw [Ex.eta'] at K4
            obtain ⟨M1, qM1⟩ : ∃ M1, M1 = M ++ cex x.value ((0 : Nat) : Int) := ⟨_, rfl⟩
            rw [← qM1] at K4
            have laM1 : M.length ≤ M1.length := by rw [qM1, List.length_append]; omega
            have lbM1 : M1.length ≤ M.length + x.value.size := by rw [qM1, List.length_append]; have := cex_len x.value ((0 : Nat) : Int); omega
            have eM1 := Lib.hid qM1
            clear qM1
            have H4 := Lib.hid (H3.out.step hbp hb1 hbw K4)
            have z4 := K4.size
            clear cT0 cT5 cT6 cT7
            clear K4 H3
            have cT0 : w4.cell? ⟨bs, 0, none⟩ = some (.int .i64 1) := by rw [← hq.out]; exact cell_of_heap H4.out.2.1 0
            have cT1 := cell_of_heap H4.out.2.1 1
            go_wp2_with fail
            refine (emitL 3 [x.target, 0] H4.out.1.start (by omega) (by simp) (by omega)).mono ?_
            rintro e w5 ⟨rfl, ul5, uf5, K5⟩
            obtain ⟨M2, qM2⟩ : ∃ M2 : List Ins, M2 = M1 ++ [⟨3, x.target, 0, 0, 0⟩] := ⟨_, rfl⟩
            replace K5 : CI w4 base p ul4 uf4 M2 ul5 uf5 n' (n' + 1) w5 := by rw [qM2]; exact K5
            have laM2 : M1.length < M2.length := by rw [qM2]; simp
            have lbM2 : M2.length ≤ M1.length + 1 := by rw [qM2]; simp
            have eM2 := Lib.hid qM2
            clear qM2
            have H5 := Lib.hid (H4.out.step hbp hb1 hbw K5)
            have z5 := K5.size
            clear cT0 cT1
            clear K5 H4
            have hcst := Lib.hid (show M2 = M ++ cst x M.length (d : Int) by
              have := cst_1 (k := x.kind) hq.out M x.target x.index x.value x.count x.body x.els (d : Int); rw [← St.eta x] at this; rw [this]; simp [eM2.out, eM1.out])
            go_wp2
            go_roundw
            case rel => exact ⟨j + 1, _, _, _, _, by omega, by go_num, by rw [hcx.out, ← hcst.out]; exact H5.out.1, by omega, by omega⟩
            case measure => simp [intOf]; omega
        · as_aux_lemma =>
            have cT0 : w3.cell? ⟨bs, 0, none⟩ = some (.int .i64 5) := by rw [← hq.out]; exact cell_of_heap H3.out.2.1 0
            have cT5 := cell_of_heap H3.out.2.1 5
            have cT6 := cell_of_heap H3.out.2.1 6
            have cT7 := cell_of_heap H3.out.2.1 7
            go_wp2_with fail
            refine (CmpJ.expr lo hi base nv na hb1 (Ex.sizes x.value.kids + 1) w3 5 p ul uf M n' (n' + 1) (.slice av x.value.kids.length dv) x.value.kind x.value.val x.value.kids 0 (Nat.lt_succ_self _) (by rw [Ex.eta']; exact (EvP.right_shp (hrv.out (by have := hq.out; omega))).1) (by omega) hbp H3.out.1.start H3.out.2.2.2.1 (by omega) (by omega)).mono ?_
            rintro e w4 ⟨rfl, ul4, uf4, K4⟩
            rw [Ex.eta'] at K4
            obtain ⟨M1, qM1⟩ : ∃ M1, M1 = M ++ cex x.value ((0 : Nat) : Int) := ⟨_, rfl⟩
            rw [← qM1] at K4
            have laM1 : M.length ≤ M1.length := by rw [qM1, List.length_append]; omega
            have lbM1 : M1.length ≤ M.length + x.value.size := by rw [qM1, List.length_append]; have := cex_len x.value ((0 : Nat) : Int); omega
            have eM1 := Lib.hid qM1
            clear qM1
            have H4 := Lib.hid (H3.out.step hbp hb1 hbw K4)
            have z4 := K4.size
            clear cT0 cT5 cT6 cT7
            clear K4 H3
            have cT0 : w4.cell? ⟨bs, 0, none⟩ = some (.int .i64 5) := by rw [← hq.out]; exact cell_of_heap H4.out.2.1 0
            go_wp2_with fail
            refine (emitL 11 [0] H4.out.1.start (by omega) (by simp) (by omega)).mono ?_
            rintro e w5 ⟨rfl, ul5, uf5, K5⟩
            obtain ⟨M2, qM2⟩ : ∃ M2 : List Ins, M2 = M1 ++ [⟨11, 0, 0, 0, 0⟩] := ⟨_, rfl⟩
            replace K5 : CI w4 base p ul4 uf4 M2 ul5 uf5 n' (n' + 1) w5 := by rw [qM2]; exact K5
            have laM2 : M1.length < M2.length := by rw [qM2]; simp
            have lbM2 : M2.length ≤ M1.length + 1 := by rw [qM2]; simp
            have eM2 := Lib.hid qM2
            clear qM2
            have H5 := Lib.hid (H4.out.step hbp hb1 hbw K5)
            have z5 := K5.size
            clear cT0
            clear K5 H4
            have cT1 := cell_of_heap H5.out.2.1 1
            go_wp2_with fail
            refine (emitL 3 [x.target, 0] H5.out.1.start (by omega) (by simp) (by omega)).mono ?_
            rintro e w6 ⟨rfl, ul6, uf6, K6⟩
            obtain ⟨M3, qM3⟩ : ∃ M3 : List Ins, M3 = M2 ++ [⟨3, x.target, 0, 0, 0⟩] := ⟨_, rfl⟩
            replace K6 : CI w5 base p ul5 uf5 M3 ul6 uf6 n' (n' + 1) w6 := by rw [qM3]; exact K6
            have laM3 : M2.length < M3.length := by rw [qM3]; simp
            have lbM3 : M3.length ≤ M2.length + 1 := by rw [qM3]; simp
            have eM3 := Lib.hid qM3
            clear qM3
            have H6 := Lib.hid (H5.out.step hbp hb1 hbw K6)
            have z6 := K6.size
            clear cT1
            clear K6 H5
            have hcst := Lib.hid (show M3 = M ++ cst x M.length (d : Int) by
              have := cst_5 (k := x.kind) hq.out M x.target x.index x.value x.count x.body x.els (d : Int); rw [← St.eta x] at this; rw [this]; simp [eM3.out, eM2.out, eM1.out])
            go_wp2
            go_roundw
            case rel => exact ⟨j + 1, _, _, _, _, by omega, by go_num, by rw [hcx.out, ← hcst.out]; exact H6.out.1, by omega, by omega⟩
            case measure => simp [intOf]; omega
        · as_aux_lemma =>
            have cT0 : w3.cell? ⟨bs, 0, none⟩ = some (.int .i64 2) := by rw [← hq.out]; exact cell_of_heap H3.out.2.1 0
            have cT5 := cell_of_heap H3.out.2.1 5
            have cT6 := cell_of_heap H3.out.2.1 6
            have cT7 := cell_of_heap H3.out.2.1 7
            go_wp2_with fail
            refine (CmpJ.expr lo hi base nv na hb1 (Ex.sizes x.value.kids + 1) w3 5 p ul uf M n' (n' + 1) (.slice av x.value.kids.length dv) x.value.kind x.value.val x.value.kids 0 (Nat.lt_succ_self _) (by rw [Ex.eta']; exact (EvP.right_shp (hrv.out (by have := hq.out; omega))).1) (by omega) hbp H3.out.1.start H3.out.2.2.2.1 (by omega) (by omega)).mono ?_
            rintro e w4 ⟨rfl, ul4, uf4, K4⟩
            rw [Ex.eta'] at K4
            obtain ⟨M1, qM1⟩ : ∃ M1, M1 = M ++ cex x.value ((0 : Nat) : Int) := ⟨_, rfl⟩
            rw [← qM1] at K4
            have laM1 : M.length ≤ M1.length := by rw [qM1, List.length_append]; omega
            have lbM1 : M1.length ≤ M.length + x.value.size := by rw [qM1, List.length_append]; have := cex_len x.value ((0 : Nat) : Int); omega
            have eM1 := Lib.hid qM1
            clear qM1
            have H4 := Lib.hid (H3.out.step hbp hb1 hbw K4)
            have z4 := K4.size
            clear cT0 cT5 cT6 cT7
            clear K4 H3
            have cT0 : w4.cell? ⟨bs, 0, none⟩ = some (.int .i64 2) := by rw [← hq.out]; exact cell_of_heap H4.out.2.1 0
            have cT1 := cell_of_heap H4.out.2.1 1
            have cT2 := cell_of_heap H4.out.2.1 2
            have cT3 := cell_of_heap H4.out.2.1 3
            have cT4 := cell_of_heap H4.out.2.1 4
            go_wp2_with fail
            refine (CmpJ.expr lo hi base nv na hb1 (Ex.sizes x.index.kids + 1) w4 5 p ul4 uf4 M1 n' (n' + 1) (.slice ai x.index.kids.length di) x.index.kind x.index.val x.index.kids 1 (Nat.lt_succ_self _) (by rw [Ex.eta']; exact (EvP.right_shp (hri.out (by have := hq.out; omega)).1).1) (by omega) hbp H4.out.1.start H4.out.2.2.1 (by omega) (by omega)).mono ?_
            rintro e w5 ⟨rfl, ul5, uf5, K5⟩
            rw [Ex.eta'] at K5
            obtain ⟨M2, qM2⟩ : ∃ M2, M2 = M1 ++ cex x.index ((1 : Nat) : Int) := ⟨_, rfl⟩
            rw [← qM2] at K5
            have laM2 : M1.length ≤ M2.length := by rw [qM2, List.length_append]; omega
            have lbM2 : M2.length ≤ M1.length + x.index.size := by rw [qM2, List.length_append]; have := cex_len x.index ((1 : Nat) : Int); omega
            have eM2 := Lib.hid qM2
            clear qM2
            have H5 := Lib.hid (H4.out.step hbp hb1 hbw K5)
            have z5 := K5.size
            clear cT0 cT1 cT2 cT3 cT4
            clear K5 H4
            have cT1 := cell_of_heap H5.out.2.1 1
            go_wp2_with fail
            refine (emitL 5 [x.target, 1, 0] H5.out.1.start (by omega) (by simp) (by omega)).mono ?_
            rintro e w6 ⟨rfl, ul6, uf6, K6⟩
            obtain ⟨M3, qM3⟩ : ∃ M3 : List Ins, M3 = M2 ++ [⟨5, x.target, 1, 0, 0⟩] := ⟨_, rfl⟩
            replace K6 : CI w5 base p ul5 uf5 M3 ul6 uf6 n' (n' + 1) w6 := by rw [qM3]; exact K6
            have laM3 : M2.length < M3.length := by rw [qM3]; simp
            have lbM3 : M3.length ≤ M2.length + 1 := by rw [qM3]; simp
            have eM3 := Lib.hid qM3
            clear qM3
            have H6 := Lib.hid (H5.out.step hbp hb1 hbw K6)
            have z6 := K6.size
            clear cT1
            clear K6 H5
            have hcst := Lib.hid (show M3 = M ++ cst x M.length (d : Int) by
              have := cst_2 (k := x.kind) hq.out M x.target x.index x.value x.count x.body x.els (d : Int); rw [← St.eta x] at this; rw [this]; simp [eM3.out, eM2.out, eM1.out])
            go_wp2
            go_roundw
            case rel => exact ⟨j + 1, _, _, _, _, by omega, by go_num, by rw [hcx.out, ← hcst.out]; exact H6.out.1, by omega, by omega⟩
            case measure => simp [intOf]; omega
        · as_aux_lemma =>
            have cT0 : w3.cell? ⟨bs, 0, none⟩ = some (.int .i64 3) := by rw [← hq.out]; exact cell_of_heap H3.out.2.1 0
            have cT5 := cell_of_heap H3.out.2.1 5
            have cT6 := cell_of_heap H3.out.2.1 6
            have cT7 := cell_of_heap H3.out.2.1 7
            go_wp2_with fail
            refine (CmpJ.expr lo hi base nv na hb1 (Ex.sizes x.value.kids + 1) w3 5 p ul uf M n' (n' + 1) (.slice av x.value.kids.length dv) x.value.kind x.value.val x.value.kids 0 (Nat.lt_succ_self _) (by rw [Ex.eta']; exact (EvP.right_shp (hrv.out (by have := hq.out; omega))).1) (by omega) hbp H3.out.1.start H3.out.2.2.2.1 (by omega) (by omega)).mono ?_
            rintro e w4 ⟨rfl, ul4, uf4, K4⟩
            rw [Ex.eta'] at K4
            obtain ⟨M1, qM1⟩ : ∃ M1, M1 = M ++ cex x.value ((0 : Nat) : Int) := ⟨_, rfl⟩
            rw [← qM1] at K4
            have laM1 : M.length ≤ M1.length := by rw [qM1, List.length_append]; omega
            have lbM1 : M1.length ≤ M.length + x.value.size := by rw [qM1, List.length_append]; have := cex_len x.value ((0 : Nat) : Int); omega
            have eM1 := Lib.hid qM1
            clear qM1
            have H4 := Lib.hid (H3.out.step hbp hb1 hbw K4)
            have z4 := K4.size
            clear cT0 cT5 cT6 cT7
            clear K4 H3
            skip
            have cT0 : w4.cell? ⟨bs, 0, none⟩ = some (.int .i64 3) := by rw [← hq.out]; exact cell_of_heap H4.out.2.1 0
            obtain ⟨⟨p4, q4, eu4⟩, -⟩ := H4.out.1.lens
            subst eu4
            have cP0 := cell_of_heap H4.out.1.cells 0
            go_upto_region 19 with fail
            clear cP0 cT0
            go_wp2_with fail
            refine (emitL 9 [0, 0] H4.out.1.start (by omega) (by simp) (by omega)).mono ?_
            rintro e w5 ⟨rfl, ul5, uf5, K5⟩
            obtain ⟨M2, qM2⟩ : ∃ M2 : List Ins, M2 = M1 ++ [⟨9, 0, 0, 0, 0⟩] := ⟨_, rfl⟩
            replace K5 : CI w4 base p (.slice p4 M1.length q4) uf4 M2 ul5 uf5 n' (n' + 1) w5 := by rw [qM2]; exact K5
            have laM2 : M1.length < M2.length := by rw [qM2]; simp
            have lbM2 : M2.length ≤ M1.length + 1 := by rw [qM2]; simp
            have eM2 := Lib.hid qM2
            clear qM2
            have H5 := Lib.hid (H4.out.step hbp hb1 hbw K5)
            have z5 := K5.size
            clear K5 H4
            have cT9 := cell_of_heap H5.out.2.1 9
            go_wp2_with fail
            rw [show (d : Int) + 1 = ((d + 1 : Nat) : Int) from rfl]
            refine (ihh.out w5 p ul5 uf5 M2 n' (n' + 1) (.slice ab x.body.length db) x.body (d + 1) (m - 1) hbz hbB.out (by omega) (by omega) hbp H5.out.1.start H5.out.2.2.2.2.1 (by omega) (by omega) (by omega)).mono ?_
            rintro e w6 ⟨rfl, ul6, uf6, o6, n6, K6, n06, n16⟩
            rw [show ((d + 1 : Nat) : Int) = (d : Int) + 1 from rfl] at K6
            obtain ⟨M3, qM3⟩ : ∃ M3, M3 = M2 ++ csts x.body M2.length ((d : Int) + 1) := ⟨_, rfl⟩
            rw [← qM3] at K6
            have laM3 : M2.length ≤ M3.length := by rw [qM3, List.length_append]; omega
            have lbM3 : M3.length ≤ M2.length + 4 * St.sizes x.body := by rw [qM3, List.length_append]; have := csts_le x.body M2.length ((d : Int) + 1); omega
            have eM3 := Lib.hid qM3
            clear qM3
            have H6 := Lib.hid (H5.out.step hbp hb1 hbw K6)
            have z6 := K6.size
            clear cT9
            clear K6 H5
            have cP2 := cell_of_heap H6.out.1.cells 2
            have fP := frozen_of_heap H6.out.1.cells
            have lP := heap_lt H6.out.1.cells
            have K7 : CI w6 base p ul6 uf6 M3 ul6 uf6 n' n6 (w6.setCell ⟨p, 2, none⟩ (.int .i64 n')) := H6.out.1.start.num (j := 2) rfl
            go_upto_region 22 with fail
            generalize w6.setCell ⟨p, 2, none⟩ (.int .i64 n') = w7 at *
            have H7 := Lib.hid (H6.out.step hbp hb1 hbw K7)
            have z7 := K7.size
            clear cP2 fP lP
            clear K7 H6
            obtain ⟨⟨p7, q7, eu7⟩, -⟩ := H7.out.1.lens
            subst eu7
            have cP0 := cell_of_heap H7.out.1.cells 0
            go_upto_region 23 with fail
            clear cP0
            go_wp2_with fail
            refine (emitL 8 [0] H7.out.1.start (by omega) (by simp) (by omega)).mono ?_
            rintro e w8 ⟨rfl, ul8, uf8, K8⟩
            obtain ⟨M4, qM4⟩ : ∃ M4 : List Ins, M4 = M3 ++ [⟨8, 0, 0, 0, 0⟩] := ⟨_, rfl⟩
            replace K8 : CI w7 base p (.slice p7 M3.length q7) uf6 M4 ul8 uf8 n' n6 w8 := by rw [qM4]; exact K8
            have laM4 : M3.length < M4.length := by rw [qM4]; simp
            have lbM4 : M4.length ≤ M3.length + 1 := by rw [qM4]; simp
            have eM4 := Lib.hid qM4
            clear qM4
            have H8 := Lib.hid (H7.out.step hbp hb1 hbw K8)
            have z8 := K8.size
            clear K8 H7
            obtain ⟨pb9, pd9, pe9, -, -, -, -, -⟩ := H8.out.1.start.patch M1.length (by omega)
            subst pe9
            have cP0 := cell_of_heap H8.out.1.cells 0
            go_wp2_with fail
            set_option maxRecDepth 100000 in go_still_tail 10, (by kernel_rfl)
            change wpList _ _ _ _ _ w8.drew
            have K9 : CI w8 base p (.slice (some ⟨pb9, 0, none⟩) M4.length pd9) uf8 M4 (.slice (some ⟨pb9, 0, none⟩) M4.length pd9) uf8 n' n6 w8.drew := H8.out.1.start.new ((Kp.refl _ _).drew)
            generalize w8.drew = w9 at *
            have H9 := Lib.hid (H8.out.step hbp hb1 hbw K9)
            have z9 := K9.size
            clear cP0
            clear K9 H8
            obtain ⟨pb2, pd2, pe2, pz9, pm9, -, pf9, pc9⟩ := H9.out.1.start.patch M1.length (by omega)
            cases pe2
            obtain ⟨pv, pg, ps⟩ := pc9 2 (by decide)
            have pfh := pf9 (M1.length * 5 + 2)
            have hlt : M1.length < M4.length := by omega
            have hget : M4[M1.length]? = some (⟨9, 0, 0, 0, 0⟩ : Ins) := by rw [eM4.out, List.getElem?_append_left (by omega), eM3.out, List.getElem?_append_left (by omega), eM2.out, List.getElem?_append_right (Nat.le_refl _)]; simp
            have hge2 : M4[M1.length] = (⟨9, 0, 0, 0, 0⟩ : Ins) := Option.some.inj ((List.getElem?_eq_getElem hlt).symm.trans hget)
            have K10 := ps ⟨9, 0, (M4.length : Int), 0, 0⟩ (.int .i64 M4.length) (fun q hq => by rw [hge2]; exact match q, hq with | 0, _ => rfl | 1, _ => rfl | 2, _ => rfl | 3, _ => rfl | 4, _ => rfl)
            have K10h := Lib.hid K10
            clear K10 ps pc9 pf9 hget hge2
            have cP0 := cell_of_heap H9.out.1.cells 0
            obtain ⟨M5, qM5⟩ : ∃ M5 : List Ins, M5 = M4.set M1.length ⟨9, 0, (M4.length : Int), 0, 0⟩ := ⟨_, rfl⟩
            rw [← qM5] at K10h
            have laM5 : M4.length ≤ M5.length := by rw [qM5, List.length_set]; exact Nat.le_refl _
            have lbM5 : M5.length ≤ M4.length := by rw [qM5, List.length_set]; exact Nat.le_refl _
            have eM5 := Lib.hid qM5
            clear qM5
            go_upto_region 25 with fail
            generalize w9.setCell ⟨pb9, M1.length * 5 + 2, none⟩ (.int .i64 M4.length) = w10 at *
            have K10 := K10h.out
            clear K10h
            have H10 := Lib.hid (H9.out.step hbp hb1 hbw K10)
            have z10 := K10.size
            clear cP0 pfh pg hlt
            clear K10 H9
            have cT10 := cell_of_heap H10.out.2.1 10
            go_wp2_with fail
            rw [show (d : Int) + 1 = ((d + 1 : Nat) : Int) from rfl]
            refine (ihh.out w10 p (.slice (some ⟨pb9, 0, none⟩) M4.length pd9) uf8 M5 n' n6 (.slice ae x.els.length de) x.els (d + 1) (m - 1) hez heB.out (by omega) (by omega) hbp H10.out.1.start H10.out.2.2.2.2.2 (by omega) (by omega) (by omega)).mono ?_
            rintro e w11 ⟨rfl, ul11, uf11, o11, n11, K11, n011, n111⟩
            rw [show ((d + 1 : Nat) : Int) = (d : Int) + 1 from rfl] at K11
            obtain ⟨M6, qM6⟩ : ∃ M6, M6 = M5 ++ csts x.els M5.length ((d : Int) + 1) := ⟨_, rfl⟩
            rw [← qM6] at K11
            have laM6 : M5.length ≤ M6.length := by rw [qM6, List.length_append]; omega
            have lbM6 : M6.length ≤ M5.length + 4 * St.sizes x.els := by rw [qM6, List.length_append]; have := csts_le x.els M5.length ((d : Int) + 1); omega
            have eM6 := Lib.hid qM6
            clear qM6
            have H11 := Lib.hid (H10.out.step hbp hb1 hbw K11)
            have z11 := K11.size
            clear cT10
            clear K11 H10
            obtain ⟨pb12, pd12, pe12, -, -, -, -, -⟩ := H11.out.1.start.patch M3.length (by omega)
            subst pe12
            have cP0 := cell_of_heap H11.out.1.cells 0
            go_wp2_with fail
            set_option maxRecDepth 100000 in go_still_tail 10, (by kernel_rfl)
            change wpList _ _ _ _ _ w11.drew
            have K12 : CI w11 base p (.slice (some ⟨pb12, 0, none⟩) M6.length pd12) uf11 M6 (.slice (some ⟨pb12, 0, none⟩) M6.length pd12) uf11 o11 n11 w11.drew := H11.out.1.start.new ((Kp.refl _ _).drew)
            generalize w11.drew = w12 at *
            have H12 := Lib.hid (H11.out.step hbp hb1 hbw K12)
            have z12 := K12.size
            clear cP0
            clear K12 H11
            obtain ⟨pb2, pd2, pe2, pz12, pm12, -, pf12, pc12⟩ := H12.out.1.start.patch M3.length (by omega)
            cases pe2
            obtain ⟨pv, pg, ps⟩ := pc12 1 (by decide)
            have pfh := pf12 (M3.length * 5 + 1)
            have hlt : M3.length < M6.length := by omega
            have hget : M6[M3.length]? = some (⟨8, 0, 0, 0, 0⟩ : Ins) := by rw [eM6.out, List.getElem?_append_left (by omega), eM5.out, List.getElem?_set_ne (by omega), eM4.out, List.getElem?_append_right (Nat.le_refl _)]; simp
            have hge2 : M6[M3.length] = (⟨8, 0, 0, 0, 0⟩ : Ins) := Option.some.inj ((List.getElem?_eq_getElem hlt).symm.trans hget)
            have K13 := ps ⟨8, (M6.length : Int), 0, 0, 0⟩ (.int .i64 M6.length) (fun q hq => by rw [hge2]; exact match q, hq with | 0, _ => rfl | 1, _ => rfl | 2, _ => rfl | 3, _ => rfl | 4, _ => rfl)
            have K13h := Lib.hid K13
            clear K13 ps pc12 pf12 hget hge2
            have cP0 := cell_of_heap H12.out.1.cells 0
            obtain ⟨M7, qM7⟩ : ∃ M7 : List Ins, M7 = M6.set M3.length ⟨8, (M6.length : Int), 0, 0, 0⟩ := ⟨_, rfl⟩
            rw [← qM7] at K13h
            have laM7 : M6.length ≤ M7.length := by rw [qM7, List.length_set]; exact Nat.le_refl _
            have lbM7 : M7.length ≤ M6.length := by rw [qM7, List.length_set]; exact Nat.le_refl _
            have eM7 := Lib.hid qM7
            clear qM7
            go_upto_region 34 with fail
            generalize w12.setCell ⟨pb12, M3.length * 5 + 1, none⟩ (.int .i64 M6.length) = w13 at *
            have K13 := K13h.out
            clear K13h
            have H13 := Lib.hid (H12.out.step hbp hb1 hbw K13)
            have z13 := K13.size
            clear cP0 pfh pg hlt
            clear K13 H12
            have hcst := Lib.hid (show M7 = M ++ cst x M.length (d : Int) by
              have := cst_3 (k := x.kind) hq.out M x.target x.index x.value x.count x.body x.els (d : Int) M1 M2 M3 M4 M5 M6 eM1.out eM2.out eM3.out eM4.out eM5.out eM6.out; rw [← St.eta x] at this; rw [this, eM7.out])
            go_wp2
            go_roundw
            case rel => exact ⟨j + 1, _, _, _, _, by omega, by go_num, by rw [hcx.out, ← hcst.out]; exact H13.out.1, by omega, by omega⟩
            case measure => simp [intOf]; omega
        · as_aux_lemma =>
            have cT0 : w3.cell? ⟨bs, 0, none⟩ = some (.int .i64 4) := by rw [← hq.out]; exact cell_of_heap H3.out.2.1 0
            have cT8 := cell_of_heap H3.out.2.1 8
            go_wp2_with fail
            refine (emitL 1 [9 + (d : Int), x.count] H3.out.1.start (by omega) (by simp) (by omega)).mono ?_
            rintro e w4 ⟨rfl, ul4, uf4, K4⟩
            obtain ⟨M1, qM1⟩ : ∃ M1 : List Ins, M1 = M ++ [⟨1, 9 + (d : Int), x.count, 0, 0⟩] := ⟨_, rfl⟩
            replace K4 : CI w3 base p ul uf M1 ul4 uf4 n' (n' + 1) w4 := by rw [qM1]; exact K4
            have laM1 : M.length < M1.length := by rw [qM1]; simp
            have lbM1 : M1.length ≤ M.length + 1 := by rw [qM1]; simp
            have eM1 := Lib.hid qM1
            clear qM1
            have H4 := Lib.hid (H3.out.step hbp hb1 hbw K4)
            have z4 := K4.size
            clear cT0 cT8
            clear K4 H3
            obtain ⟨⟨p4, q4, eu4⟩, -⟩ := H4.out.1.lens
            subst eu4
            have cP0 := cell_of_heap H4.out.1.cells 0
            go_upto_region 31 with fail
            clear cP0
            have cT9 := cell_of_heap H4.out.2.1 9
            go_wp2_with fail
            rw [show (d : Int) + 1 = ((d + 1 : Nat) : Int) from rfl]
            refine (ihh.out w4 p (.slice p4 M1.length q4) uf4 M1 n' (n' + 1) (.slice ab x.body.length db) x.body (d + 1) (m - 1) hbz hbB.out (by omega) (by omega) hbp H4.out.1.start H4.out.2.2.2.2.1 (by omega) (by omega) (by omega)).mono ?_
            rintro e w5 ⟨rfl, ul5, uf5, o5, n5, K5, n05, n15⟩
            rw [show ((d + 1 : Nat) : Int) = (d : Int) + 1 from rfl] at K5
            obtain ⟨M2, qM2⟩ : ∃ M2, M2 = M1 ++ csts x.body M1.length ((d : Int) + 1) := ⟨_, rfl⟩
            rw [← qM2] at K5
            have laM2 : M1.length ≤ M2.length := by rw [qM2, List.length_append]; omega
            have lbM2 : M2.length ≤ M1.length + 4 * St.sizes x.body := by rw [qM2, List.length_append]; have := csts_le x.body M1.length ((d : Int) + 1); omega
            have eM2 := Lib.hid qM2
            clear qM2
            have H5 := Lib.hid (H4.out.step hbp hb1 hbw K5)
            have z5 := K5.size
            clear cT9
            clear K5 H4
            have cP2 := cell_of_heap H5.out.1.cells 2
            have fP := frozen_of_heap H5.out.1.cells
            have lP := heap_lt H5.out.1.cells
            have K6 : CI w5 base p ul5 uf5 M2 ul5 uf5 n' n5 (w5.setCell ⟨p, 2, none⟩ (.int .i64 n')) := H5.out.1.start.num (j := 2) rfl
            go_upto_region 33 with fail
            generalize w5.setCell ⟨p, 2, none⟩ (.int .i64 n') = w6 at *
            have H6 := Lib.hid (H5.out.step hbp hb1 hbw K6)
            have z6 := K6.size
            clear cP2 fP lP
            clear K6 H5
            go_wp2_with fail
            refine (emitL 10 [9 + (d : Int), (M1.length : Int)] H6.out.1.start (by omega) (by simp) (by omega)).mono ?_
            rintro e w7 ⟨rfl, ul7, uf7, K7⟩
            obtain ⟨M3, qM3⟩ : ∃ M3 : List Ins, M3 = M2 ++ [⟨10, 9 + (d : Int), (M1.length : Int), 0, 0⟩] := ⟨_, rfl⟩
            replace K7 : CI w6 base p ul5 uf5 M3 ul7 uf7 n' n5 w7 := by rw [qM3]; exact K7
            have laM3 : M2.length < M3.length := by rw [qM3]; simp
            have lbM3 : M3.length ≤ M2.length + 1 := by rw [qM3]; simp
            have eM3 := Lib.hid qM3
            clear qM3
            have H7 := Lib.hid (H6.out.step hbp hb1 hbw K7)
            have z7 := K7.size
            clear K7 H6
            have hcst := Lib.hid (show M3 = M ++ cst x M.length (d : Int) by
              have := cst_4 (k := x.kind) hq.out M x.target x.index x.value x.count x.body x.els (d : Int); rw [← St.eta x] at this; rw [this]; simp [eM3.out, eM2.out, eM1.out])
            go_wp2
            go_roundw
            case rel => exact ⟨j + 1, _, _, _, _, by omega, by go_num, by rw [hcx.out, ← hcst.out]; exact H7.out.1, by omega, by omega⟩
            case measure => simp [intOf]; omega
      · have hall : l.take j = l := List.take_of_length_le (by omega)
        rw [hall] at Ch hn2
        have hge : l.length ≤ j := by omega
        clear hall hlt
        go_wp2
        exact Go.Great.bodyPost_end0 rfl rfl ⟨rfl, ul, uf, o', n', Ch.out, hn0, hn2⟩
end Go.Proofs.Ytckikiaockkmbaa.CmpL
