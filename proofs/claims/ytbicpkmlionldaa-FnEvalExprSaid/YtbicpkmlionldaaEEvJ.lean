/- Evaluation of expressions by impl: the recursion over operands. Conditions: the expression is valid, the memory fits, bounds on lengths. -/
import Derived.Test.YtbicpkmlionldaaEEvI
import Derived.Test.YtbicpkmlionldaaEP7
import Derived.Deep.DeepCutAuto
import Derived.Test.YtbicpkmlionldaaEP1
namespace Go.Proofs.Ytbicpkmlionldaa.EvJ
open Go.RowKit Kit Val Step EvP EvI
set_option linter.unusedVariables false
theorem Recd.drewN {w w' : World} {b base : Nat} {va vb ev : Value} {P : Value → Prop} {l : List Ev} {e : Ending} (h : Recd w b base va vb ev P l e w') (n : Nat) : Recd w b base va vb ev P l e (w'.drewN n) := by
  obtain ⟨r, ev', h1, h2, h3, h4, h5, h6⟩ := h
  have kd : New w' (w'.drewN n) := drewN_kp _ n (Kp.refl _ _)
  exact ⟨r, ev', h1, h2, h3.nw' kd, heap_new kd h4, h5.new kd, h6⟩
/-- behind j operands -/
def EvL (w : World) (b base bE : Nat) (k v : Int) (s va vb ev : Value) (ya : List Int) (yb : List (List Int)) (ks : List Ex) (l : List Ev) (j : Nat) (u : Value) (wr : World) : Prop := ∃ ev', Kp (fun c => c = b ∨ ev.ownBlock = some c) w wr ∧ wr.heap[bE]? = some (.cells #[.int .i64 k, .int .i64 v, s] 52 (0, 0)) ∧ wr.heap[b]? = some (.cells #[va, vb, ev'] 87 (0, 0)) ∧
  OwnF 2 encE wr base 68 ev' (l ++ evts ya yb (ks.take j)) ∧ Grew w ev ev' ∧ OwnF 1 encI wr bE 3 u (evls ya yb (ks.take j)) ∧ bE < wr.heap.size
/-- what an evaluation leaves -/
def Done (w : World) (b base : Nat) (va vb ev : Value) (x : Int) (l : List Ev) : Ending → World → Prop := Recd w b base va vb ev (fun r => r = .int .i64 x) l
theorem Done.of {w wr : World} {b base : Nat} {va vb ev ev1 : Value} {x y : Int} {l m : List Ev} (K : Kp (fun c => c = b ∨ ev.ownBlock = some c) w wr) (bR : wr.heap[b]? = some (.cells #[va, vb, ev1] 87 (0, 0))) (hE : OwnF 2 encE wr base 68 ev1 m) (g : Grew w ev ev1) (hx : y = x) (hl : m = l) : Done w b base va vb ev x l (.returned (.int .i64 y)) wr :=
  ⟨_, ev1, rfl, by rw [hx], K, bR, hl ▸ hE, g⟩
set_option maxHeartbeats 16000000 in
set_option maxRecDepth 100000 in
theorem eval (lo hi lm hm b base nv na : Nat) (va vb : Value) (ya : List Int) (yb : List (List Int)) (hf : Fit nv na ya yb) (hnv : nv ≤ 1000) (hna : na ≤ 1000) (hb1 : hi ≤ base) (hb2 : hm ≤ base) (hb3 : base ≤ b) :
    ∀ (n : Nat) (w : World) (d : Nat) (ev s : Value) (k v : Int) (ks : List Ex) (l : List Ev), Ex.sizes ks < n → shp nv na (.node k v ks) d = true → w.heap[b]? = some (.cells #[va, vb, ev] 87 (0, 0)) → IntsR w lm hm va ya → MatR w lm hm vb yb → KidsR w lo hi s ks → OwnF 2 encE w base 68 ev l → l.length + Ex.sizes ks ≤ 2097152 →
      Calls Try.prog 43 #[.pointer (some ⟨b, 0, none⟩), .agg #[.int .i64 k, .int .i64 v, s]] w (Done w b base va vb ev (evl ya yb (.node k v ks)) (l ++ evt ya yb (.node k v ks))) := by
  intro n
  induction n with
  | zero => intro w d ev s k v ks l h; exact absurd h (Nat.not_lt_zero _)
  | succ n ih =>
    intro w d ev s k v ks l hn hsh hb ra rb hs hev hl
    obtain ⟨a1, d1, rfl, hkl⟩ := hs.len
    have hbs := heap_lt hb
    have k0 : New w (w.alloc (.cells #[.int .i64 k, .int .i64 v, .slice a1 ks.length d1] 52)) := (Kp.refl _ _).alloc _
    have hE0 := Lib.hid (show EvL w b base w.heap.size k v (.slice a1 ks.length d1) va vb ev ya yb ks l 0 (.slice none 0 0) (w.alloc (.cells #[.int .i64 k, .int .i64 v, .slice a1 ks.length d1] 52)) from
      ⟨ev, k0.mono (fun _ _ f => f.elim), alloc_heap _ _, heap_new k0 hb, by simpa [evts] using hev.new k0, Grew.refl _ _, by simpa [evls] using OwnF.nil (α := Int) (n := 1) (enc := encI) (w.alloc (.cells #[.int .i64 k, .int .i64 v, .slice a1 ks.length d1] 52)) w.heap.size 3, by simp⟩)
    have hevl := hev.lt
    have hra := Lib.hid ra
    have hrb := Lib.hid rb
    have hsh2 := Lib.hid hsh
    have hsr := Lib.hid hs
    have ihh := Lib.hid ih
    have hevh := Lib.hid hevl
    have hval := Lib.hid (show opV ya yb k v (evls ya yb ks) = evl ya yb (.node k v ks) from rfl)
    have htrc := Lib.hid (show l ++ evts ya yb ks ++ opT k v (evls ya yb ks) = l ++ evt ya yb (.node k v ks) by rw [evt, List.append_assoc])
    have hrange := Lib.hid (evls_range hf ks (d - 1) (shps_of hsh))
    have hlenv := Lib.hid (evls_length (ya := ya) (yb := yb) ks)
    have hsl := Ex.length_sizes ks
    generalize evl ya yb (.node k v ks) = X at *
    generalize l ++ evt ya yb (.node k v ks) = L at *
    clear ra rb hsh hs ih hb hev k0 hevl
    go_enter Try.func43, Try.ntmps43
    go_upto_region 2 with fail
    generalize hbE : w.heap.size = bE at hE0 ⊢
    have hbE1 : bE ≤ w.heap.size := Nat.le_of_eq hbE.symm
    have hbE2 : w.heap.size ≤ bE := Nat.le_of_eq hbE
    generalize w.alloc (.cells #[.int .i64 k, .int .i64 v, .slice a1 ks.length d1] 52) = w0 at *
    clear hbE
    have cE2 := (show w0.cell? ⟨bE, 2, none⟩ = some (.slice a1 ks.length d1) from by obtain ⟨_, _, q, _⟩ := hE0.out; exact cell_of_heap q 2)
    go_wp2_with fail
    clear cE2
    go_loopw [5, 11] (fun q i wr => ∃ (j : Nat) (u : Value), j ≤ ks.length ∧ i = .int .i64 j ∧ u = q ∧ EvL w b base bE k v (.slice a1 ks.length d1) va vb ev ya yb ks l j u wr) (fun _ i _ => ks.length - (intOf i).toNat)
    case atStart => exact ⟨0, _, Nat.zero_le _, rfl, rfl, hE0.out⟩
    case round =>
      obtain ⟨j, u, hj, rfl, rfl, ev1, K, bE0, bR, hE, g, hV, zr⟩ := hrel
      clear hE0
      have hEh := Lib.hid hE
      have hVh := Lib.hid hV
      have hKh := Lib.hid K
      have hgh := Lib.hid g
      have zw := K.size
      have hoff := Lib.hid (show ∀ c, c < base → ¬ (c = b ∨ ev.ownBlock = some c) from fun c hc e => by
        rcases e with e | e
        · omega
        · have := hevh.out c e; omega)
      clear hE hV K g
      by_cases hlt : j < ks.length
      · clear hrange hval htrc hlenv
        obtain ⟨b', o, s', rfl, q1, q2, c0, c1, c2, kk⟩ := hsr.out.at j hlt
        have e0 := (hKh.out.cell (b := b') (by omega) (hoff.out b' (by omega)) (o + j * 3)).trans c0
        have e1 := (hKh.out.cell (b := b') (by omega) (hoff.out b' (by omega)) (o + j * 3 + 1)).trans c1
        have e2 := (hKh.out.cell (b := b') (by omega) (hoff.out b' (by omega)) (o + j * 3 + 2)).trans c2
        have kkr := Lib.hid (kk.kp hKh.out (by omega) (fun c e => .inr (Classical.byContradiction fun hc => hoff.out c (by omega) e)))
        have hkid := Lib.hid (kids hsh2.out j hlt)
        have hsz := Ex.kids_get ks j hlt
        have hsz2 := Ex.sizes_get ks j hlt
        have hvs := Lib.hid (evls_take (ya := ya) (yb := yb) hlt)
        have hts := Lib.hid (evts_take (ya := ya) (yb := yb) hlt)
        have hxe : ks[j] = .node ks[j].kind ks[j].val ks[j].kids := by cases ks[j]; rfl
        have hszt : Ex.sizes (ks.take j) + ks[j].size ≤ Ex.sizes ks := by have e1 := sizes_td ks j; rw [List.drop_eq_getElem_cons hlt] at e1; simp only [Ex.sizes] at e1; omega
        obtain ⟨x, hx⟩ : ∃ x, ks[j] = x := ⟨_, rfl⟩
        rw [hx] at e0 e1 kkr hkid hsz hsz2 hvs hts hxe hszt
        have hxs := Ex.size_kids x
        have htl2 := evts_len (ya := ya) (yb := yb) (ks.take j)
        have hvl2 : (evls ya yb (ks.take j)).length ≤ ks.length := by rw [evls_length]; exact List.length_take_le' _ _
        obtain ⟨a4, d4, rfl, hkl4⟩ := kkr.out.len
        have hxeh := Lib.hid hxe
        clear c0 c1 c2 kk hx hxe
        have cE2 := cell_of_heap bE0 2
        have kd : New wr (wr.alloc (.cells #[.int .i64 x.kind, .int .i64 x.val, .slice a4 x.kids.length d4] 52)) := (Kp.refl _ _).alloc _
        have zk : wr.heap.size < (wr.alloc (.cells #[.int .i64 x.kind, .int .i64 x.val, .slice a4 x.kids.length d4] 52)).heap.size := by simp
        have bk := alloc_heap wr (.cells #[.int .i64 x.kind, .int .i64 x.val, .slice a4 x.kids.length d4] 52)
        go_upto_region 5 with fail
        generalize hbk : wr.heap.size = bkk at bk ⊢
        generalize wr.alloc (.cells #[.int .i64 x.kind, .int .i64 x.val, .slice a4 x.kids.length d4] 52) = wk at *
        have zb : wr.heap.size ≤ bkk := Nat.le_of_eq hbk
        obtain ⟨ck0, ck1, ck2⟩ := cells3 bk
        have bE1 := heap_new kd bE0
        have bR1 := heap_new kd bR
        have hE1 := Lib.hid (hEh.out.new kd)
        have hV1 := Lib.hid (hVh.out.new kd)
        have K1 := Lib.hid (hKh.out.nw' kd)
        have kk1 := Lib.hid (kkr.out.new (by omega) kd)
        have ra1 := Lib.hid (hra.out.kp K1.out (by omega) (fun c e => .inr (Classical.byContradiction fun hc => hoff.out c (by omega) e)))
        have rb1 := Lib.hid (hrb.out.kp K1.out (by omega) (fun c e => .inr (Classical.byContradiction fun hc => hoff.out c (by omega) e)))
        have zwk := K1.out.size
        have zE1 : bE < wk.heap.size := by omega
        clear hbk e0 e1 e2 cE2 bE0 bR hEh hVh hKh kkr kd
        go_wp2_with fail
        refine (ihh.out wk (d - 1) ev1 (.slice a4 x.kids.length d4) x.kind x.val x.kids (l ++ evts ya yb (ks.take j)) (by omega) (by rw [← hxeh.out]; exact hkid.out) bR1 ra1.out rb1.out kk1.out hE1.out (by simp only [List.length_append]; omega)).mono ?_
        rw [← hxeh.out]
        rintro e w1 ⟨r, ev2, rfl, rfl, K2, bR2, hE2, g2⟩
        have z2 := K2.size
        have hVl := Lib.hid hV1.out.lt
        have hneE := Lib.hid (show ¬ (bE = b ∨ ev1.ownBlock = some bE) from fun e => e.elim (fun e => by omega) (OwnF.box hE1.out bE1 (by decide)))
        have hneV := Lib.hid (show ∀ c, u.ownBlock = some c → ¬ (c = b ∨ ev1.ownBlock = some c) from fun c hc e => e.elim (fun e => OwnF.box hV1.out bR1 (by decide) (e ▸ hc)) (fun e => OwnF.apart hV1.out hE1.out (by decide) c hc e))
        have bE2 := (K2.block _ zE1 hneE.out).trans bE1
        have hV2 := Lib.hid (hV1.out.kp K2 hneV.out)
        have K3 := Lib.hid (Kp.grew (S := fun c => c = b) K1.out hgh.out K2)
        have g3 := Lib.hid (hgh.out.trans g2 zwk)
        have hE2h := Lib.hid (show OwnF 2 encE w1 base 68 ev2 (l ++ evts ya yb (ks.take (j + 1))) by rw [hts.out, ← List.append_assoc]; exact hE2)
        have hvsh := Lib.hid (hvs.out)
        generalize evl ya yb x = z at *
        have kA : New w1 (w1.alloc (.cells #[.int .i64 z] 3)) := (Kp.refl _ _).alloc _
        have hx1 := Lib.hid (FlR.i1 (alloc_heap w1 (.cells #[.int .i64 z] 3)))
        have hVA := Lib.hid (hV2.out.new kA)
        have hEA := Lib.hid (hE2h.out.new kA)
        have bEA := heap_new kA bE2
        have bRA := heap_new kA bR2
        have KA := Lib.hid (K3.out.nw' kA)
        have zA := kA.size
        clear ck0 ck1 ck2 bk bE1 bR1 hE1 hV1 K1 kk1 ra1 rb1 K2 hneE hneV hgh g2 hE2 hV2 K3 kA hvs bE2 bR2 hE2h
        go_wp2_with (at_builtin; refine wpList_pushesN rfl _ _ 23 rfl bE 3 _ 8 Try.underlying23 LawF.infoI rfl (by decide) _ (evls ya yb (ks.take j)) rfl hVA.out _ [z] rfl hx1.out (fun q _ _ => rfl) ?ca ?cb ?cc ?_)
        case ca => simp; omega
        case cb => simp; omega
        case cc => simp; omega
        intro v2 w2 hv2 hk2 ha2
        have hbu := OwnF.box hVA.out bRA (by decide)
        have hbe := OwnF.box hVA.out bEA (by decide)
        have hue := Lib.hid (OwnF.apart hEA.out hVA.out (by decide))
        have bR3 := (hk2.block _ (by simp; omega) hbu).trans bRA
        have bE3 := (hk2.block _ (by simp; omega) hbe).trans bEA
        have hE3 := Lib.hid (hEA.out.kp hk2 hue.out)
        have K5 := Lib.hid (KA.out.over hk2 (fun c hc => .inr (by have := hVl.out c hc; omega)))
        have hv2h := Lib.hid (show OwnF 1 encI w2 bE 3 v2 (evls ya yb (ks.take (j + 1))) by rw [hvsh.out]; exact hv2)
        have z3 := hk2.size
        have z4 : bE < w2.heap.size := by simp at z3; omega
        clear hbu hbe hue hv2 hk2 ha2 hVA hx1 hEA KA hVl bRA bEA
        go_wp2
        go_roundw
        case rel => exact ⟨j + 1, _, by omega, by go_num, rfl, ev2, K5.out, bE3, bR3, hE3.out, g3.out, hv2h.out, z4⟩
        case measure => simp [intOf]; omega
      · have hall : ks.take j = ks := List.take_of_length_le (by omega)
        rw [hall] at hEh hVh
        have ra1 := hra.out.kp hKh.out (by omega) (fun c e => .inr (Classical.byContradiction fun hc => hoff.out c (by omega) e))
        have rb1 := hrb.out.kp hKh.out (by omega) (fun c e => .inr (Classical.byContradiction fun hc => hoff.out c (by omega) e))
        have htl := evts_len (ya := ya) (yb := yb) ks
        generalize evls ya yb ks = vs at *
        generalize evts ya yb ks = ts at *
        obtain ⟨cE0, cE1⟩ := cells2 bE0
        obtain ⟨a5, d5, rfl, _⟩ := hVh.out.reads.len
        have cV := Lib.hid (fun i (h : i < vs.length) => IntsR.at hVh.out.reads i h)
        have hvr := Lib.hid (show ∀ i (h : i < vs.length), ∃ m : Nat, vs[i] = m ∧ m ≤ 255 from fun i h => ⟨vs[i].toNat, by have := hrange.out i h; omega, by have := hrange.out i h; omega⟩)
        have hge : ks.length ≤ j := by omega
        clear hrange hall hlt
        rcases kinds hsh2.out with ⟨rfl, e1, e2, e3⟩ | ⟨rfl, e1, e2, e3⟩ | ⟨rfl, e1, e2, e3⟩ | ⟨e1, e1', e2, rfl⟩ | ⟨rfl, e1, rfl⟩
        · as_aux_lemma =>
            clear e1 ra1 rb1 cV hvr
            go_wp2
            go_ret
            exact Done.of hKh.out bR hEh.out hgh.out (by rw [← hval.out]; rfl) (by rw [← htrc.out]; simp [opT])
        · as_aux_lemma =>
            clear e1 rb1 cV hvr
            obtain ⟨m, rfl⟩ := Int.eq_ofNat_of_zero_le e2
            have hm : m < ya.length := by have := hf.vl; omega
            obtain ⟨a6, d6, rfl, _⟩ := ra1.len
            obtain ⟨c6, o6, rfl, q1, q2, q3⟩ := IntsR.at ra1 m hm
            have hx := Lib.hid (show ya[m] = X by rw [← hval.out, opV, if_neg (by decide), if_pos rfl]; exact (at0_nat hm).symm)
            have cR0 := cell_of_heap bR 0
            clear ra1
            generalize ya[m] = z at *
            go_wp2_with fail
            go_quiet (fail)
            go_wp2
            go_ret
            exact Recd.drewN (Done.of hKh.out bR hEh.out hgh.out hx.out (by rw [← htrc.out]; simp [opT])) _
        · as_aux_lemma =>
            clear ra1
            obtain ⟨m, rfl⟩ := Int.eq_ofNat_of_zero_le e2
            have hm : m < yb.length := by have := hf.al; omega
            have h0 : 0 < vs.length := by have := hlenv.out; omega
            obtain ⟨i, hi, hi2⟩ := hvr.out 0 h0
            obtain ⟨c7, o7, hc7, q6, q7, cv⟩ := cV.out 0 h0
            obtain rfl := hc7
            rw [hi, Nat.add_zero] at cv
            have hi4 : i % 4 < yb[m].length := by rw [hf.ar m hm]; omega
            obtain ⟨a6, d6, rfl, _⟩ := rb1.len
            obtain ⟨c6, o6, s6, rfl, q1, q2, q3, hrow⟩ := rb1.at' m hm
            obtain ⟨a8, d8, rfl, _⟩ := hrow.len
            obtain ⟨c8, o8, rfl, q4, q5, q8⟩ := IntsR.at hrow (i % 4) hi4
            have hv0 : at0 vs 0 = (i : Int) := (at0_nat (i := 0) h0).trans hi
            have hx := Lib.hid (show yb[m][i % 4] = X by rw [← hval.out, opV, if_neg (by decide), if_neg (by decide), if_pos rfl, hv0, row0_nat hm, show ((i : Int) % 4) = ((i % 4 : Nat) : Int) by omega, at0_nat hi4])
            have ht := Lib.hid (show l ++ ts ++ [(2, addr m i)] = L by rw [← htrc.out, opT, if_pos rfl, hv0])
            have h8 := hf.ar m hm
            have h8a : yb[m].length ≤ 4 := by omega
            have h8b : 4 ≤ yb[m].length := by omega
            have hih := Lib.hid hi
            have hneE := Lib.hid (show ¬ (bE = b ∨ ev1.ownBlock = some bE) from fun e => e.elim (fun e => by omega) (OwnF.box hEh.out bE0 (by decide)))
            have hneV := Lib.hid (show ∀ c, (Value.slice (some ⟨c7, o7, none⟩) vs.length d5).ownBlock = some c → ¬ (c = b ∨ ev1.ownBlock = some c) from fun c hc e => e.elim (fun e => OwnF.box hVh.out bR (by decide) (e ▸ hc)) (fun e => OwnF.apart hVh.out hEh.out (by decide) c hc e))
            have hevb := Lib.hid hEh.out.lt
            clear rb1 hrow cV hvr hv0 hi hval htrc h8
            generalize yb[m][i % 4]'_ = z at *
            generalize yb[m].length = ln at *
            have cR1 := cell_of_heap bR 1
            go_wp2_with fail
            set_option maxRecDepth 100000 in go_still_tail 7, (by kernel_rfl)
            still_call ((OpV.address _ _ _ (by omega) (by omega) (by omega) (by omega)).mono fun _ _ h => ⟨h.1, h.2.symm⟩)
            refine wpStill_nil ?_
            change wpList _ _ _ _ _ wr.drew
            go_wp2_with fail
            have kd : New wr wr.drew := (Kp.refl _ _).drew
            refine (event wr.drew b base va _ ev1 2 (addr m i) (l ++ ts) (heap_new kd bR) (hEh.out.new kd) (by simp only [List.length_append]; omega) (by show base ≤ wr.heap.size; omega)).mono ?_
            rintro e w1 ⟨r, ev2, rfl, rfl, K2, bR2, hE2, g2⟩
            have K3 := Lib.hid (Kp.grew (S := fun c => c = b) (hKh.out.nw' kd) hgh.out K2)
            have g3 := Lib.hid (hgh.out.trans g2 zw)
            have hE3 := Lib.hid hE2
            have hlow : ∀ c, c < base → ¬ (c = b ∨ ev1.ownBlock = some c) := fun c hc e => e.elim (fun e => by omega) (fun e => by have := hevb.out c e; omega)
            have hV2 := (hVh.out.new kd).kp K2 hneV.out
            obtain ⟨c9, o9, h9, _, _, cv2⟩ := IntsR.at hV2.reads 0 h0
            cases h9
            rw [hih.out, Nat.add_zero] at cv2
            have bE2 := (K2.block bE (show bE < wr.heap.size from zr) hneE.out).trans (heap_new kd bE0)
            obtain ⟨dE0, dE1⟩ := cells2 bE2
            have dR1 := cell_of_heap bR2 1
            have r3 := (K2.cell (b := c6) (show c6 < wr.heap.size by omega) (hlow c6 (by omega)) (o6 + m)).trans q3
            have r8 := (K2.cell (b := c8) (show c8 < wr.heap.size by omega) (hlow c8 (by omega)) (o8 + i % 4)).trans q8
            clear hV2 hlow hE2 K2 g2 hih cR1 cE0 cE1 cv
            go_wp2_with fail
            go_quiet (fail)
            go_wp2
            go_ret
            exact Recd.drewN (Done.of K3.out bR2 hE3.out g3.out hx.out ht.out) _
        · as_aux_lemma =>
            clear ra1 rb1
            have h0 : 0 < vs.length := by have := hlenv.out; omega
            have h1 : 1 < vs.length := by have := hlenv.out; omega
            obtain ⟨x0, hx0, b0⟩ := hvr.out 0 h0
            obtain ⟨x1, hx1, b1⟩ := hvr.out 1 h1
            obtain ⟨c7, o7, hc7, q6, q7, cv0⟩ := cV.out 0 h0
            obtain ⟨c8, o8, hc8, _, _, cv1⟩ := cV.out 1 h1
            obtain rfl := hc7
            cases hc8
            rw [hx0, Nat.add_zero] at cv0
            rw [hx1] at cv1
            have n1 : (k == 1) = false := by rw [beq_eq_false_iff_ne]; omega
            have n2 : (k == 2) = false := by rw [beq_eq_false_iff_ne]; omega
            have n3 : (k == 3) = false := by rw [beq_eq_false_iff_ne]; omega
            have n4 : (k == 11) = false := by rw [beq_eq_false_iff_ne]; omega
            have hx := Lib.hid (show binV k x0 x1 = X by rw [← hval.out, opV, if_neg (by omega), if_neg (by omega), if_neg (by omega), if_neg (by omega), show at0 vs 0 = (x0 : Int) from (at0_nat (i := 0) h0).trans hx0, show at0 vs 1 = (x1 : Int) from (at0_nat (i := 1) h1).trans hx1])
            have ht := Lib.hid (show l ++ ts = L by rw [← htrc.out, opT, if_neg (by omega), List.append_nil])
            have Q := Lib.hid (show ∀ n, Calls Try.prog 65 #[.int .i64 k, .int .i64 x0, .int .i64 x1] (wr.drewN n) fun e w' => e = .returned (.int .i64 (binV k x0 x1)) ∧ ∃ m, w' = wr.drewN m from fun n => (OpV.operate k x0 x1 _ e1 e1' (by omega) (by omega) (by omega) (by omega)).mono fun e w' h => ⟨h.1, n, h.2.symm⟩)
            clear cV hvr hx0 hx1 hval htrc
            generalize binV k x0 x1 = z at *
            go_wp2_with fail
            go_quiet ((go_at_call 65; exact Q.out _))
            go_wp2
            go_ret
            exact Recd.drewN (Done.of hKh.out bR hEh.out hgh.out hx.out ht.out) _
        · as_aux_lemma =>
            clear ra1 rb1
            have h0 : 0 < vs.length := by have := hlenv.out; omega
            have h1 : 1 < vs.length := by have := hlenv.out; omega
            have h2 : 2 < vs.length := by have := hlenv.out; omega
            obtain ⟨c7, o7, hc7, q6, q7, cv0⟩ := cV.out 0 h0
            obtain ⟨c8, o8, hc8, _, _, cv1⟩ := cV.out 1 h1
            obtain ⟨c9, o9, hc9, _, _, cv2⟩ := cV.out 2 h2
            obtain rfl := hc7
            cases hc8
            cases hc9
            rw [Nat.add_zero] at cv0
            have hv : opV ya yb 11 0 vs = if vs[0] = 0 then vs[2] else vs[1] := by
              rw [opV, if_neg (by decide), if_neg (by decide), if_neg (by decide), if_pos rfl, show at0 vs 0 = vs[0] from at0_nat (i := 0) h0, show at0 vs 1 = vs[1] from at0_nat (i := 1) h1, show at0 vs 2 = vs[2] from at0_nat (i := 2) h2]
            have hX := hv.symm.trans hval.out
            have ht := Lib.hid (show l ++ ts = L by rw [← htrc.out, opT, if_neg (by omega), List.append_nil])
            clear cV hvr hval htrc hv
            generalize vs[0] = x0 at *
            generalize vs[1] = x1 at *
            generalize vs[2] = x2 at *
            by_cases hz : x0 = 0
            · subst hz
              have hX2 := Lib.hid (show x2 = X by simpa using hX)
              clear hX
              go_wp2
              go_ret
              exact Done.of hKh.out bR hEh.out hgh.out hX2.out ht.out
            · have hX2 := Lib.hid (show x1 = X by rw [if_neg hz] at hX; exact hX)
              have hz1 : (x0 != 0) = true := by simpa using hz
              clear hX hz
              go_wp2
              go_ret
              exact Done.of hKh.out bR hEh.out hgh.out hX2.out ht.out
end Go.Proofs.Ytbicpkmlionldaa.EvJ
