/- Evaluation of expressions by spec. Conditions: the expression is valid, the memory fits, bounds on lengths. -/
import Derived.Test.YtckikiaockkmbaaDoorXEvI
import Derived.Test.YtckikiaockkmbaaDoorXP7
import Derived.Test.YtckikiaockkmbaaDoorXFlowP
import Derived.Deep.RegionHeld3
import Derived.Deep.DeepCutAuto
import Derived.RegionTactic
import Derived.Test.YtckikiaockkmbaaDoorXP1
namespace Go.Proofs.YtckikiaockkmbaaDoor.EvS
open Go.RowKit Kit Val Step EvP
set_option linter.unusedVariables false
theorem results_tmp2 {P : Program} {fn : Func} {p q : Tmp} (h : fn.results = #[.tmp p, .tmp q]) (tmps : Array Value) (w : World) : (results fn tmps).run P w = .ok (.tuple #[tmps.getD p undef, tmps.getD q undef]) w := by
  simp [results, h]
/-- what an evaluation leaves -/
def Done (w : World) (base : Nat) (ev : Value) (x : Int) (l : List Ev) (e : Ending) (w' : World) : Prop := ∃ ev', e = .returned (.tuple #[.int .i64 x, ev']) ∧ Kp (fun c => ev.ownBlock = some c) w w' ∧ OwnF 2 encE w' base 54 ev' l ∧ Grew w ev ev'
theorem Done.of {w wr : World} {base : Nat} {ev ev1 u v : Value} {x y : Int} {l m : List Ev} (K : Kp (fun c => ev.ownBlock = some c) w wr) (hE : OwnF 2 encE wr base 54 ev1 m) (g : Grew w ev ev1) (hx : y = x) (hl : m = l) (hu : u = .int .i64 y) (hv : v = ev1) : Done w base ev x l (.returned (.tuple #[u, v])) wr := by
  subst hx hl hu hv; exact ⟨_, rfl, K, hE, g⟩
theorem Done.drewN {w w' : World} {base : Nat} {ev : Value} {x : Int} {l : List Ev} {e : Ending} (h : Done w base ev x l e w') (n : Nat) : Done w base ev x l e (w'.drewN n) := by
  obtain ⟨ev', h1, h3, h5, h6⟩ := h
  have kd : New w' (w'.drewN n) := drewN_kp _ n (Kp.refl _ _)
  exact ⟨ev', h1, h3.nw' kd, h5.new kd, h6⟩
/-- behind j operands -/
def EvL (w : World) (base bM bE bV : Nat) (k v : Int) (s va vb ev : Value) (ya : List Int) (yb : List (List Int)) (ks : List Ex) (l : List Ev) (j : Nat) (ev' u : Value) (wr : World) : Prop := Kp (fun c => ev.ownBlock = some c) w wr ∧ wr.heap[bM]? = some (.cells #[va, vb] 101 (0, 0)) ∧ wr.heap[bE]? = some (.cells #[.int .i64 k, .int .i64 v, s] 45 (0, 0)) ∧
  OwnF 2 encE wr base 54 ev' (l ++ evts ya yb (ks.take j)) ∧ Grew w ev ev' ∧ OwnF 1 encI wr bV 3 u (evls ya yb (ks.take j)) ∧ bV < wr.heap.size
set_option maxHeartbeats 16000000 in
set_option maxRecDepth 100000 in
theorem l3Eval (lo hi lm hm base nv na : Nat) (va vb : Value) (ya : List Int) (yb : List (List Int)) (hf : Fit nv na ya yb) (hnv : nv ≤ 1000) (hna : na ≤ 1000) (hb1 : hi ≤ base) (hb2 : hm ≤ base) :
    ∀ (n : Nat) (w : World) (d : Nat) (ev s : Value) (k v : Int) (ks : List Ex) (l : List Ev), Ex.sizes ks < n → shp nv na (.node k v ks) d = true → base ≤ w.heap.size → IntsR w lm hm va ya → MatR w lm hm vb yb → KidsR w lo hi s ks → OwnF 2 encE w base 54 ev l → l.length + Ex.sizes ks ≤ 2097152 →
      Calls Tryd.prog 92 #[.agg #[va, vb], .agg #[.int .i64 k, .int .i64 v, s], ev] w (Done w base ev (evl ya yb (.node k v ks)) (l ++ evt ya yb (.node k v ks))) := by
  intro n
  induction n with
  | zero => intro w d ev s k v ks l h; exact absurd h (Nat.not_lt_zero _)
  | succ n ih =>
    intro w d ev s k v ks l hn hsh hbw ra rb hs hev hl
    obtain ⟨a1, d1, rfl, hkl⟩ := hs.len
    have k0 : New w ((w.alloc (.cells #[va, vb] 101)).alloc (.cells #[.int .i64 k, .int .i64 v, .slice a1 ks.length d1] 45)) := ((Kp.refl _ _).alloc _).alloc _
    have bM_0 : ((w.alloc (.cells #[va, vb] 101)).alloc (.cells #[.int .i64 k, .int .i64 v, .slice a1 ks.length d1] 45)).heap[w.heap.size]? = some (.cells #[va, vb] 101) := heap_old (alloc_heap _ _)
    have bE_0 : ((w.alloc (.cells #[va, vb] 101)).alloc (.cells #[.int .i64 k, .int .i64 v, .slice a1 ks.length d1] 45)).heap[w.heap.size + 1]? = some (.cells #[.int .i64 k, .int .i64 v, .slice a1 ks.length d1] 45) := heap_at (by simp)
    have z0 : w.heap.size + 1 < ((w.alloc (.cells #[va, vb] 101)).alloc (.cells #[.int .i64 k, .int .i64 v, .slice a1 ks.length d1] 45)).heap.size := by simp
    have hevl := hev.lt
    have hra := Lib.hid ra
    have hrb := Lib.hid rb
    have hsh2 := Lib.hid hsh
    have hsr := Lib.hid hs
    have ihh := Lib.hid ih
    have hevh := Lib.hid hevl
    have hE0 := Lib.hid (hev.new k0)
    have hval := Lib.hid (show opV ya yb k v (evls ya yb ks) = evl ya yb (.node k v ks) from rfl)
    have htrc := Lib.hid (show l ++ evts ya yb ks ++ opT k v (evls ya yb ks) = l ++ evt ya yb (.node k v ks) by rw [evt, List.append_assoc])
    have hrange := Lib.hid (evls_range hf ks (d - 1) (shps_of hsh))
    have hlenv := Lib.hid (evls_length (ya := ya) (yb := yb) ks)
    have hsl := Ex.length_sizes ks
    have K0 := Lib.hid (show Kp (fun c => ev.ownBlock = some c) w ((w.alloc (.cells #[va, vb] 101)).alloc (.cells #[.int .i64 k, .int .i64 v, .slice a1 ks.length d1] 45)) from k0.mono fun _ _ f => f.elim)
    generalize evl ya yb (.node k v ks) = X at *
    generalize l ++ evt ya yb (.node k v ks) = L at *
    clear ra rb hsh hs ih hev hevl
    go_enter Tryd.func92, Tryd.ntmps92
    go_upto_region 1 with fail
    generalize hbM : w.heap.size = bM at bM_0 bE_0 z0 ⊢
    generalize hbE : bM + 1 = bE at bE_0 z0 ⊢
    have hbM1 : bM ≤ w.heap.size := Nat.le_of_eq hbM.symm
    have hbM2 : w.heap.size ≤ bM := Nat.le_of_eq hbM
    have hbE1 : bE ≤ bM + 1 := Nat.le_of_eq hbE.symm
    have hbE2 : bM + 1 ≤ bE := Nat.le_of_eq hbE
    generalize (w.alloc (.cells #[va, vb] 101)).alloc (.cells #[.int .i64 k, .int .i64 v, .slice a1 ks.length d1] 45) = w0 at *
    clear hbM hbE k0
    have hoff := Lib.hid (show ∀ c, c < base → ¬ ev.ownBlock = some c from fun c hc e => by have := hevh.out c e; omega)
    have ra0 := hra.out.kp K0.out (by omega) (fun c e => .inr (Classical.byContradiction fun hc => hoff.out c (by omega) e))
    obtain ⟨cE0, cE1, cE2⟩ := cells3 bE_0
    by_cases hk1 : k = 1
    · as_aux_lemma =>
        subst hk1
        rcases kinds hsh2.out with ⟨_, e1, e2, e3⟩ | ⟨h, _⟩ | ⟨h, _⟩ | ⟨h, _⟩ | ⟨h, _⟩ <;> first | (exact absurd h (by decide)) | skip
        obtain rfl : ks = [] := List.eq_nil_of_length_eq_zero e1
        have ht := Lib.hid (show l = L by rw [← htrc.out]; simp [opT, evts])
        have hx := Lib.hid (show v = X by rw [← hval.out]; rfl)
        clear ra0 hval htrc
        go_wp2
        refine bodyPost_ret (results_tmp2 rfl _ _) rfl ?_
        exact Done.of K0.out hE0.out (Grew.refl _ _) hx.out ht.out rfl rfl
    · by_cases hk2 : k = 2
      · as_aux_lemma =>
          subst hk2
          rcases kinds hsh2.out with ⟨h, _⟩ | ⟨_, e1, e2, e3⟩ | ⟨h, _⟩ | ⟨h, _⟩ | ⟨h, _⟩ <;> first | (exact absurd h (by decide)) | skip
          obtain rfl : ks = [] := List.eq_nil_of_length_eq_zero e1
          have ht := Lib.hid (show l = L by rw [← htrc.out]; simp [opT, evts])
          obtain ⟨m, rfl⟩ := Int.eq_ofNat_of_zero_le e2
          have hm' : m < ya.length := by have := hf.vl; omega
          obtain ⟨a6, d6, rfl, _⟩ := ra0.len
          obtain ⟨c6, o6, rfl, q1, q2, q3⟩ := IntsR.at ra0 m hm'
          have hx := Lib.hid (show ya[m] = X by rw [← hval.out, opV, if_neg (by decide), if_pos rfl]; exact (at0_nat hm').symm)
          have cM0 := cell_of_heap bM_0 0
          clear ra0 hval htrc
          generalize ya[m] = z at *
          go_wp2
          refine bodyPost_ret (results_tmp2 rfl _ _) rfl ?_
          exact Done.of K0.out hE0.out (Grew.refl _ _) hx.out ht.out rfl rfl
      · have n1 : (k == 1) = false := by rw [beq_eq_false_iff_ne]; exact hk1
        have n2 : (k == 2) = false := by rw [beq_eq_false_iff_ne]; exact hk2
        have hkk1 := Lib.hid hk1
        have hkk2 := Lib.hid hk2
        have kV : New w0 (w0.alloc (.cells #[] 3)) := (Kp.refl _ _).alloc _
        have hV0 := OwnF.empty (α := Int) (n := 1) (enc := encI) w0 3 (base := w0.heap.size) (Nat.le_refl _)
        have hL0 := Lib.hid (show EvL w base bM bE w0.heap.size k v (.slice a1 ks.length d1) va vb ev ya yb ks l 0 ev (.slice (some ⟨w0.heap.size, 0, none⟩) 0 0) (w0.alloc (.cells #[] 3)) from
          ⟨K0.out.nw' kV, heap_new kV bM_0, heap_new kV bE_0, by simpa [evts] using hE0.out.new kV, Grew.refl _ _, by simpa [evls] using hV0, by simp⟩)
        clear hk1 hk2 ra0 kV hV0 hE0 K0 bM_0 bE_0
        go_upto_region 7 with fail
        clear n1 n2 cE0 cE1 cE2
        have zV : bE < w0.heap.size := z0
        clear z0
        generalize w0.alloc (.cells #[] 3) = wv at *
        generalize w0.heap.size = bV at *
        go_wp2_with fail
        go_loopw [2, 8, 9] (fun p q i wr => ∃ (j : Nat) (ev1 u : Value), j ≤ ks.length ∧ i = .int .i64 j ∧ ev1 = p ∧ u = q ∧ EvL w base bM bE bV k v (.slice a1 ks.length d1) va vb ev ya yb ks l j ev1 u wr) (fun _ _ i _ => ks.length - (intOf i).toNat)
        case atStart => exact ⟨0, _, _, Nat.zero_le _, rfl, rfl, rfl, hL0.out⟩
        case round =>
          obtain ⟨j, ev1, u, hj, rfl, rfl, rfl, K, bM0, bE0, hE, g, hV, zr⟩ := hrel
          clear hL0
          have hEh := Lib.hid hE
          have hVh := Lib.hid hV
          have hKh := Lib.hid K
          have hgh := Lib.hid g
          have zw := K.size
          have hevb := Lib.hid hE.lt
          clear hE hV K g
          obtain ⟨cM0, cM1⟩ := cells2 bM0
          have cE2 := cell_of_heap bE0 2
          by_cases hlt : j < ks.length
          · clear hrange hval htrc hlenv
            obtain ⟨b', o, s', rfl, q1, q2, c0, c1, c2, kk⟩ := hsr.out.at j hlt
            have e0 := (hKh.out.cell (b := b') (by omega) (hoff.out b' (by omega)) (o + j * 3)).trans c0
            have e1 := (hKh.out.cell (b := b') (by omega) (hoff.out b' (by omega)) (o + j * 3 + 1)).trans c1
            have e2 := (hKh.out.cell (b := b') (by omega) (hoff.out b' (by omega)) (o + j * 3 + 2)).trans c2
            have kkr := Lib.hid (kk.kp hKh.out (by omega) (fun c e => .inr (Classical.byContradiction fun hc => hoff.out c (by omega) e)))
            have hkid := Lib.hid (kids hsh2.out j hlt)
            have hsz := Ex.kids_get ks j hlt
            have hsz2 := Ex.sizes_get ks j hlt
            have hvs := Lib.hid (evls_take (ya := ya) (yb := yb) hlt)
            have hts := Lib.hid (evts_take (ya := ya) (yb := yb) hlt)
            have hxe : ks[j] = .node ks[j].kind ks[j].val ks[j].kids := by cases ks[j]; rfl
            have hszt : Ex.sizes (ks.take j) + ks[j].size ≤ Ex.sizes ks := by have e1 := sizes_td ks j; rw [List.drop_eq_getElem_cons hlt] at e1; simp only [Ex.sizes] at e1; omega
            obtain ⟨x, hx⟩ : ∃ x, ks[j] = x := ⟨_, rfl⟩
            rw [hx] at e0 e1 kkr hkid hsz hsz2 hvs hts hxe hszt
            have hxs := Ex.size_kids x
            have htl2 := evts_len (ya := ya) (yb := yb) (ks.take j)
            have hvl2 : (evls ya yb (ks.take j)).length ≤ ks.length := by rw [evls_length]; exact List.length_take_le' _ _
            obtain ⟨a4, d4, rfl, hkl4⟩ := kkr.out.len
            have hxeh := Lib.hid hxe
            clear c0 c1 c2 kk hx hxe
            go_wp2_with fail
            refine wp_region_held_drew (S := fun w' => w'.cell? ⟨bM, 0, none⟩ = some va ∧ w'.cell? ⟨bM, 1, none⟩ = some vb ∧ w'.cell? ⟨bE, 2, none⟩ = some (.slice (some ⟨b', o, none⟩) ks.length d1) ∧ w'.cell? ⟨b', o + j * 3, none⟩ = some (.int .i64 x.kind) ∧ w'.cell? ⟨b', o + j * 3 + 1, none⟩ = some (.int .i64 x.val) ∧ w'.cell? ⟨b', o + j * 3 + 2, none⟩ = some (.slice a4 x.kids.length d4)) (by kernel_rfl) ?_ (fun hHeld => ?_)
            · exact ⟨cM0, cM1, cE2, e0, e1, e2⟩
            refine HT 0 rfl ?_
            try simp only [AP]
            refine HT 1 rfl ?_
            try simp only [AP]
            refine HT 2 rfl ?_
            try simp only [AP]
            refine HT 3 rfl ?_
            try simp only [AP]
            refine HT 4 rfl ?_
            try simp only [AP]
            refine HT 5 rfl ?_
            try simp only [AP]
            refine HT 6 rfl ?_
            try simp only [AP]
            refine HR 7 rfl fun K hK => ?_
            go_simp
            have kd : New wr wr.drew := (Kp.refl _ _).drew
            have hE1 := Lib.hid (hEh.out.new kd)
            have hV1 := Lib.hid (hVh.out.new kd)
            have K1 := Lib.hid (hKh.out.nw' kd)
            have kk1 := Lib.hid (kkr.out.new (show hi ≤ wr.heap.size by omega) kd)
            have ra1 := Lib.hid (hra.out.kp K1.out (by omega) (fun c e => .inr (Classical.byContradiction fun hc => hoff.out c (by omega) e)))
            have rb1 := Lib.hid (hrb.out.kp K1.out (by omega) (fun c e => .inr (Classical.byContradiction fun hc => hoff.out c (by omega) e)))
            have bE1 := heap_new kd bE0
            have bM1 := heap_new kd bM0
            refine (ihh.out wr.drew (d - 1) ev1 (.slice a4 x.kids.length d4) x.kind x.val x.kids (l ++ evts ya yb (ks.take j)) (by omega) (by rw [← hxeh.out]; exact hkid.out) (show base ≤ wr.heap.size by omega) ra1.out rb1.out kk1.out hE1.out (by simp only [List.length_append]; omega)).mono ?_
            rw [← hxeh.out]
            rintro e w1 ⟨ev2, rfl, K2, hE2, g2⟩
            have z2 := K2.size
            have hVl := Lib.hid hV1.out.lt
            have hneE := Lib.hid (OwnF.box hE1.out bE1 (by decide))
            have hneM := Lib.hid (OwnF.box hE1.out bM1 (by decide))
            have hneV := Lib.hid (show ∀ c, u.ownBlock = some c → ¬ ev1.ownBlock = some c from fun c hc e => OwnF.apart hV1.out hE1.out (by decide) c hc e)
            have bE2 := (K2.block _ (show bE < wr.heap.size by omega) hneE.out).trans bE1
            have bM2 := (K2.block _ (show bM < wr.heap.size by omega) hneM.out).trans bM1
            have hV2 := Lib.hid (hV1.out.kp K2 hneV.out)
            have K3 := Lib.hid (Kp.grew1 K1.out hgh.out K2)
            have g3 := Lib.hid (hgh.out.trans g2 zw)
            have hlow : ¬ ev1.ownBlock = some b' := fun e => by have := hevb.out b' e; omega
            have f0 := (K2.cell (b := b') (show b' < wr.heap.size by omega) hlow (o + j * 3)).trans e0
            have f1 := (K2.cell (b := b') (show b' < wr.heap.size by omega) hlow (o + j * 3 + 1)).trans e1
            have f2 := (K2.cell (b := b') (show b' < wr.heap.size by omega) hlow (o + j * 3 + 2)).trans e2
            obtain ⟨dM0, dM1⟩ := cells2 bM2
            have dE2 := cell_of_heap bE2 2
            have hE2h := Lib.hid (show OwnF 2 encE w1 base 54 ev2 (l ++ evts ya yb (ks.take (j + 1))) by rw [hts.out, ← List.append_assoc]; exact hE2)
            have hvsh := Lib.hid (hvs.out)
            generalize evl ya yb x = z at *
            refine hK.out _ _ ?_ (fun hHeld2 => ?_)
            · exact ⟨dM0, dM1, dE2, f0, f1, f2⟩
            clear hK K hHeld
            have hHeld := hHeld2
            clear hHeld2
            try simp only [AP]
            refine HT 8 rfl ?_
            try simp only [AP]
            refine HT 9 rfl ?_
            try simp only [AP]
            refine HT 10 rfl ?_
            try simp only [AP]
            refine HT 11 rfl ?_
            try simp only [AP]
            refine HT 12 rfl ?_
            try simp only [AP]
            refine wpAnyH_done (by kernel_rfl) ?_ _
            have zA0 : bV < w1.heap.size := Nat.lt_of_lt_of_le zr z2
            clear cM0 cM1 cE2 e0 e1 e2 f0 f1 f2 dM0 dM1 dE2 hEh hVh hKh kkr hgh K2 hE2 g2 hE1 hV1 K1 kk1 ra1 rb1 bE1 bM1 hneE hneM hneV hlow hevb bM0 bE0 hvs
            have kA : New w1 (w1.alloc (.cells #[.int .i64 z] 3)) := (Kp.refl _ _).alloc _
            have hx1 := Lib.hid (FlR.i1 (alloc_heap w1 (.cells #[.int .i64 z] 3)))
            have hVA := Lib.hid (hV2.out.new kA)
            have hEA := Lib.hid (hE2h.out.new kA)
            have bEA := heap_new kA bE2
            have bMA := heap_new kA bM2
            have KA := Lib.hid (K3.out.nw' kA)
            clear kA hV2 hE2h bE2 bM2 K3
            go_wp2_with (at_builtin; refine wpList_pushesN rfl _ _ 29 rfl bV 3 _ 8 Tryd.underlying29 LawF.infoI rfl (by decide) _ (evls ya yb (ks.take j)) rfl hVA.out _ [z] rfl hx1.out (fun q _ _ => rfl) ?ca ?cb ?cc ?_)
            case ca => simp; omega
            case cb => simp; omega
            case cc => simp; omega
            intro v2 w2 hv2 hk2 ha2
            have hbe := OwnF.box hVA.out bEA (by decide)
            have hbm := OwnF.box hVA.out bMA (by decide)
            have hue := Lib.hid (OwnF.apart hEA.out hVA.out (by decide))
            have bM3 := (hk2.block _ (by simp; omega) hbm).trans bMA
            have bE3 := (hk2.block _ (by simp; omega) hbe).trans bEA
            have hE3 := Lib.hid (hEA.out.kp hk2 hue.out)
            have K5 := Lib.hid (KA.out.over hk2 (fun c hc => .inr (by have := hVl.out c hc; omega)))
            have hv2h := Lib.hid (show OwnF 1 encI w2 bV 3 v2 (evls ya yb (ks.take (j + 1))) by rw [hvsh.out]; exact hv2)
            have z3 := hk2.size
            have z4 : bV < w2.heap.size := by simp at z3; omega
            clear hbe hbm hue hv2 hk2 ha2 hVA hx1 hEA KA hVl bEA bMA
            go_wp2
            go_roundw
            case rel => exact ⟨j + 1, ev2, _, by omega, by go_num, rfl, rfl, K5.out, bM3, bE3, hE3.out, g3.out, hv2h.out, z4⟩
            case measure => simp [intOf]; omega
          · have hall : ks.take j = ks := List.take_of_length_le (by omega)
            rw [hall] at hEh hVh
            have rb1 := hrb.out.kp hKh.out (by omega) (fun c e => .inr (Classical.byContradiction fun hc => hoff.out c (by omega) e))
            have htl := evts_len (ya := ya) (yb := yb) ks
            generalize evls ya yb ks = vs at *
            generalize evts ya yb ks = ts at *
            obtain ⟨cE0, cE1⟩ := cells2 bE0
            obtain ⟨a5, d5, rfl, _⟩ := hVh.out.reads.len
            have cV := Lib.hid (fun i (h : i < vs.length) => IntsR.at hVh.out.reads i h)
            have hvr := Lib.hid (show ∀ i (h : i < vs.length), ∃ m : Nat, vs[i] = m ∧ m ≤ 255 from fun i h => ⟨vs[i].toNat, by have := hrange.out i h; omega, by have := hrange.out i h; omega⟩)
            have hge : ks.length ≤ j := by omega
            clear hrange hall hlt
            rcases kinds hsh2.out with ⟨h, _⟩ | ⟨h, _⟩ | ⟨rfl, e1, e2, e3⟩ | ⟨e1, e1', e2, rfl⟩ | ⟨rfl, e1, rfl⟩
            · exact absurd h hkk1.out
            · exact absurd h hkk2.out
            · as_aux_lemma =>
                obtain ⟨m, rfl⟩ := Int.eq_ofNat_of_zero_le e2
                have hm' : m < yb.length := by have := hf.al; omega
                have h0 : 0 < vs.length := by have := hlenv.out; omega
                obtain ⟨i, hi', hi2⟩ := hvr.out 0 h0
                obtain ⟨c7, o7, hc7, q6, q7, cv⟩ := cV.out 0 h0
                obtain rfl := hc7
                rw [hi', Nat.add_zero] at cv
                have hi4 : i % 4 < yb[m].length := by rw [hf.ar m hm']; omega
                obtain ⟨a6, d6, rfl, _⟩ := rb1.len
                obtain ⟨c6, o6, s6, rfl, q1, q2, q3, hrow⟩ := rb1.at' m hm'
                obtain ⟨a8, d8, rfl, _⟩ := hrow.len
                obtain ⟨c8, o8, rfl, q4, q5, q8⟩ := IntsR.at hrow (i % 4) hi4
                have hv0 : at0 vs 0 = (i : Int) := (at0_nat (i := 0) h0).trans hi'
                have hx := Lib.hid (show yb[m][i % 4] = X by rw [← hval.out, opV, if_neg (by decide), if_neg (by decide), if_pos rfl, hv0, row0_nat hm', show ((i : Int) % 4) = ((i % 4 : Nat) : Int) by omega, at0_nat hi4])
                have ht := Lib.hid (show l ++ ts ++ [(2, addr m i)] = L by rw [← htrc.out, opT, if_pos rfl, hv0])
                have h8 := hf.ar m hm'
                have h8a : yb[m].length ≤ 4 := by omega
                have h8b : 4 ≤ yb[m].length := by omega
                have hneE := Lib.hid (OwnF.box hEh.out bE0 (by decide))
                have hneM := Lib.hid (OwnF.box hEh.out bM0 (by decide))
                have hne7 := Lib.hid (show ¬ ev1.ownBlock = some c7 from fun e => by
                  obtain ⟨cs, q9, _⟩ := hEh.out.heapO e
                  have hcv := cv
                  rcases hVh.out.form with ⟨e2, _⟩ | ⟨g9, cap9, cs9, e9, _, _, _, hh9, _⟩
                  · subst e2; exact absurd h0 (Nat.lt_irrefl _)
                  · cases e9; rw [q9] at hh9; cases hh9)
                have hlow := Lib.hid (show ∀ c, c < base → ¬ ev1.ownBlock = some c from fun c hc e => by have := hevb.out c e; omega)
                clear rb1 hrow cV hvr hv0 hi' hval htrc h8
                generalize yb[m][i % 4]'_ = z at *
                generalize yb[m].length = ln at *
                obtain ⟨r, hr⟩ : ∃ r, i % 4 = r := ⟨_, rfl⟩
                rw [hr] at q8
                have hr4 : r < ln := by omega
                have hr0 : 0 ≤ (r : Int) := by omega
                have tm : (i : Int).tmod 4 = (r : Int) := by rw [Int.tmod_eq_emod_of_nonneg (by omega)]; omega
                clear hr hi4
                have cM1 := cell_of_heap bM0 1
                go_wp2_with fail
                refine wp_region_held_drew (S := fun w' => w'.cell? ⟨bM, 1, none⟩ = some (.slice (some ⟨c6, o6, none⟩) yb.length d6) ∧ w'.cell? ⟨bE, 1, none⟩ = some (.int .i64 m) ∧ w'.cell? ⟨c6, o6 + m, none⟩ = some (.slice (some ⟨c8, o8, none⟩) ln d8) ∧ w'.cell? ⟨c8, o8 + r, none⟩ = some (.int .i64 z) ∧ w'.cell? ⟨c7, o7, none⟩ = some (.int .i64 i)) (by kernel_rfl) ?_ (fun hHeld => ?_)
                · exact ⟨cM1, cE1, q3, q8, cv⟩
                refine HT 0 rfl ?_
                try simp only [AP]
                refine HT 1 rfl ?_
                try simp only [AP]
                refine HT 2 rfl ?_
                try simp only [AP]
                refine HT 3 rfl ?_
                try simp only [AP]
                refine HT 4 rfl ?_
                try simp only [AP]
                refine HT 5 rfl ?_
                try simp only [AP]
                refine HT 6 rfl ?_
                try simp only [AP]
                refine HT 7 rfl ?_
                try simp only [AP]
                refine HT 8 rfl ?_
                try simp only [AP]
                refine HT 9 rfl ?_
                try simp only [AP]
                refine HT 10 rfl ?_
                try simp only [AP]
                refine HT 11 rfl ?_
                try simp only [AP]
                refine HT 12 rfl ?_
                try simp only [AP]
                refine HT 13 rfl ?_
                try simp only [AP]
                refine HT 14 rfl ?_
                try simp only [AP]
                refine HT 15 rfl ?_
                try simp only [AP]
                refine HT 16 rfl ?_
                try simp only [AP]
                refine HT 17 rfl ?_
                try simp only [AP]
                refine HR 18 rfl fun K hK => ?_
                go_simp
                refine (OpV.l3Address _ _ _ (by omega) (by omega) (by omega) (by omega)).mono ?_
                rintro e w1 ⟨rfl, rfl⟩
                refine hK.out _ _ ?_ (fun hHeld2 => ?_)
                · exact ⟨cM1, cE1, q3, q8, cv⟩
                clear hK K hHeld
                have hHeld := hHeld2
                clear hHeld2
                try simp only [AP]
                refine HT 19 rfl ?_
                try simp only [AP]
                refine HR 20 rfl fun K hK => ?_
                go_simp
                refine hK.out _ _ ?_ (fun hHeld2 => ?_)
                · exact ⟨(World.cell?_alloc_lt _ _ _ (cell_lt cM1)).trans cM1, (World.cell?_alloc_lt _ _ _ (cell_lt cE1)).trans cE1, (World.cell?_alloc_lt _ _ _ (cell_lt q3)).trans q3, (World.cell?_alloc_lt _ _ _ (cell_lt q8)).trans q8, (World.cell?_alloc_lt _ _ _ (cell_lt cv)).trans cv⟩
                clear hK K hHeld
                have hHeld := hHeld2
                clear hHeld2
                try simp only [AP]
                refine HR 21 rfl fun K hK => ?_
                have kA : New wr (wr.drew.alloc (.cells #[.int .i64 2, .int .i64 (addr m i)] 54)) := (Kp.refl _ _).drew.alloc _
                refine step_pushes rfl (.tmp 66) (.tmp 74) 25 rfl base 54 _ _ Tryd.underlying25 EvI.infoE rfl (by decide) ev1 (l ++ ts) rfl (hEh.out.new kA) _ [(2, addr m i)] rfl (FlR.ev (b := wr.heap.size) (alloc_heap wr.drew _)) (fun q _ => EvI.oneE q) ?_ ?_ ?_ ?_
                · simp only [List.length_append, List.length_cons, List.length_nil]; omega
                · simp only [List.length_append, List.length_cons, List.length_nil]; omega
                · simp; omega
                intro ev2 w2 hv2 hk2 ha2
                have hkk : Kp (fun c => ev1.ownBlock = some c) wr w2 := (kA.mono fun _ _ f => f.elim).trans hk2
                have g2 : Grew wr ev1 ev2 := fun c hc => by
                  rcases ha2 with h | h
                  · exact .inl (h ▸ hc)
                  · rw [h] at hc; simp at hc; exact .inr (by omega)
                have f1 := (hkk.cell (b := bM) (show bM < wr.heap.size by omega) hneM.out 1).trans cM1
                have f2 := (hkk.cell (b := bE) (show bE < wr.heap.size by omega) hneE.out 1).trans cE1
                have f3 := (hkk.cell (b := c6) (show c6 < wr.heap.size by omega) (hlow.out c6 (by omega)) (o6 + m)).trans q3
                have f4 := (hkk.cell (b := c8) (show c8 < wr.heap.size by omega) (hlow.out c8 (by omega)) (o8 + r)).trans q8
                have f5 := (hkk.cell (b := c7) (cell_lt cv) hne7.out o7).trans cv
                refine hK.out _ _ ?_ (fun hHeld2 => ?_)
                · exact ⟨f1, f2, f3, f4, f5⟩
                clear hK K hHeld
                have hHeld := hHeld2
                clear hHeld2
                try simp only [AP]
                refine HT 22 rfl ?_
                try simp only [AP]
                refine HT 23 rfl ?_
                try simp only [AP]
                refine wpAnyH_done (by kernel_rfl) ?_ _
                go_wp2
                refine bodyPost_ret (results_tmp2 rfl _ _) rfl ?_
                exact Done.of (Kp.grew1 hKh.out hgh.out hkk) hv2 (hgh.out.trans g2 zw) hx.out ht.out rfl rfl
            · as_aux_lemma =>
                clear rb1
                have h0 : 0 < vs.length := by have := hlenv.out; omega
                have h1 : 1 < vs.length := by have := hlenv.out; omega
                obtain ⟨x0, hx0, b0⟩ := hvr.out 0 h0
                obtain ⟨x1, hx1, b1⟩ := hvr.out 1 h1
                obtain ⟨c7, o7, hc7, q6, q7, cv0⟩ := cV.out 0 h0
                obtain ⟨c8, o8, hc8, _, _, cv1⟩ := cV.out 1 h1
                obtain rfl := hc7
                cases hc8
                rw [hx0, Nat.add_zero] at cv0
                rw [hx1] at cv1
                have n3 : (k == 3) = false := by rw [beq_eq_false_iff_ne]; omega
                have n4 : (k == 11) = false := by rw [beq_eq_false_iff_ne]; omega
                have hx := Lib.hid (show binV k x0 x1 = X by rw [← hval.out, opV, if_neg (by omega), if_neg (by omega), if_neg (by omega), if_neg (by omega), show at0 vs 0 = (x0 : Int) from (at0_nat (i := 0) h0).trans hx0, show at0 vs 1 = (x1 : Int) from (at0_nat (i := 1) h1).trans hx1])
                have ht := Lib.hid (show l ++ ts = L by rw [← htrc.out, opT, if_neg (by omega), List.append_nil])
                have Q := Lib.hid (show ∀ n, Calls Tryd.prog 105 #[.int .i64 k, .int .i64 x0, .int .i64 x1] (wr.drewN n) fun e w' => e = .returned (.int .i64 (binV k x0 x1)) ∧ ∃ m, w' = wr.drewN m from fun n => (OpV.l3Bin k x0 x1 _ e1 e1' (by omega) (by omega) (by omega) (by omega)).mono fun e w' h => ⟨h.1, n, h.2.symm⟩)
                clear cV hvr hx0 hx1 hval htrc
                generalize binV k x0 x1 = z at *
                go_wp2_with fail
                go_quiet ((go_at_call 105; exact Q.out _))
                go_wp2
                refine bodyPost_ret (results_tmp2 rfl _ _) rfl ?_
                exact Done.drewN (Done.of hKh.out hEh.out hgh.out hx.out ht.out rfl rfl) _
            · as_aux_lemma =>
                clear rb1
                have h0 : 0 < vs.length := by have := hlenv.out; omega
                have h1 : 1 < vs.length := by have := hlenv.out; omega
                have h2 : 2 < vs.length := by have := hlenv.out; omega
                obtain ⟨c7, o7, hc7, q6, q7, cv0⟩ := cV.out 0 h0
                obtain ⟨c8, o8, hc8, _, _, cv1⟩ := cV.out 1 h1
                obtain ⟨c9, o9, hc9, _, _, cv2⟩ := cV.out 2 h2
                obtain rfl := hc7
                cases hc8
                cases hc9
                rw [Nat.add_zero] at cv0
                have hv : opV ya yb 11 0 vs = if vs[0] = 0 then vs[2] else vs[1] := by
                  rw [opV, if_neg (by decide), if_neg (by decide), if_neg (by decide), if_pos rfl, show at0 vs 0 = vs[0] from at0_nat (i := 0) h0, show at0 vs 1 = vs[1] from at0_nat (i := 1) h1, show at0 vs 2 = vs[2] from at0_nat (i := 2) h2]
                have hX := hv.symm.trans hval.out
                have ht := Lib.hid (show l ++ ts = L by rw [← htrc.out, opT, if_neg (by omega), List.append_nil])
                clear cV hvr hval htrc hv
                generalize vs[0] = x0 at *
                generalize vs[1] = x1 at *
                generalize vs[2] = x2 at *
                by_cases hz : x0 = 0
                · subst hz
                  have hX2 := Lib.hid (show x2 = X by simpa using hX)
                  clear hX
                  go_wp2
                  refine bodyPost_ret (results_tmp2 rfl _ _) rfl ?_
                  exact Done.of hKh.out hEh.out hgh.out hX2.out ht.out rfl rfl
                · have hX2 := Lib.hid (show x1 = X by rw [if_neg hz] at hX; exact hX)
                  have hz1 : (x0 != 0) = true := by simpa using hz
                  clear hX hz
                  go_wp2
                  refine bodyPost_ret (results_tmp2 rfl _ _) rfl ?_
                  exact Done.of hKh.out hEh.out hgh.out hX2.out ht.out rfl rfl
end Go.Proofs.YtckikiaockkmbaaDoor.EvS
