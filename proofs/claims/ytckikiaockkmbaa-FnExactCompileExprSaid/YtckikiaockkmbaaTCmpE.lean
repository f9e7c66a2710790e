/- The code of an expression by spec. Conditions: the expression is valid; bounds on lengths. -/
import Derived.Test.YtckikiaockkmbaaTCmpS
import Derived.Test.YtckikiaockkmbaaTP1
namespace Go.Proofs.Ytckikiaockkmbaa.CmpE
open Go.RowKit Kit Val CmpP CmpS
set_option linter.unusedVariables false
section
variable {w wr w2 : World} {base : Nat} {vl vf ul uf tl tf : Value} {L M : List Ins}
/-- a box is written -/
theorem _root_.Go.Proofs.Ytckikiaockkmbaa.CmpS.CS.one (h : CS w base vl vf L ul uf wr) {c : Nat} {cs : Array Value} {T' : TypeId} {f : Nat × Nat} (hc : wr.heap[c]? = some (.cells cs T' f)) (k : Kp (fun i => i = c) wr w2) (hb : w.heap.size ≤ c) (h1 : 76 ≠ T') (h2 : 3 ≠ T') : CS w base vl vf L ul uf w2 := by
  obtain ⟨F, K, A, B, hl, g1, g2⟩ := h
  exact ⟨F, K.over k fun i q => .inr (by omega), A.kp k fun i q e => OwnF.box A hc h1 (e ▸ q), B.kp k fun i q e => OwnF.box B hc h2 (e ▸ q), hl, g1, g2⟩
/-- what lies below is left alone -/
theorem _root_.Go.Proofs.Ytckikiaockkmbaa.CmpS.CS.low2 (h : CS w base vl vf L ul uf wr) (h0 : CS w base vl vf M vl vf w) {b : Nat} (hb : b < base) (hw : b < w.heap.size) (i : Nat) : wr.cell? ⟨b, i, none⟩ = w.cell? ⟨b, i, none⟩ := by
  obtain ⟨F, K, _⟩ := h
  exact K.cell hw (fun q => q.elim (fun q => by have := h0.low.1 b q; omega) (fun q => by have := h0.low.2 b q; omega)) i
end
set_option maxHeartbeats 16000000 in
set_option maxRecDepth 100000 in
theorem l7Expr (lo hi base nv na : Nat) (hb1 : hi ≤ base) : ∀ (N : Nat) (w : World) (d : Nat) (vl vf : Value) (L : List Ins) (n st : Int) (s : Value) (k v : Int) (ks : List Ex) (r : Nat), Ex.sizes ks < N → shp nv na (.node k v ks) d = true → base ≤ w.heap.size → CS w base vl vf L vl vf w → KidsR w lo hi s ks → L.length + Ex.sizes ks + 1 ≤ 1000000 → r + 3 * d ≤ 1000 →
    Calls Try.prog 72 #[.agg #[vl, vf, .int .i64 n], .int .i64 st, .agg #[.int .i64 k, .int .i64 v, s], .int .i64 r] w (Add w base vl vf (L ++ cex (.node k v ks) r) n) := by
  intro N
  induction N with
  | zero => intro w d vl vf L n st s k v ks r h; exact absurd h (Nat.not_lt_zero _)
  | succ N ih =>
    intro w d vl vf L n st s k v ks r hn hsh hbw h hs hL hr
    have hst := Lib.hid h
    have hsr0 := Lib.hid hs
    obtain ⟨⟨a1, d1, rfl⟩, a2, d2, rfl⟩ := h.lens
    obtain ⟨a3, d3, rfl, hkl⟩ := hs.len
    have N0 : New w (((w.alloc (.cells #[.slice a1 L.length d1, .slice a2 L.length d2, .int .i64 n] 104)).alloc (.cells #[.int .i64 k, .int .i64 v, .slice a3 ks.length d3] 58)).alloc (.cells #[.slice none 0 0, .slice none 0 0, .int .i64 0] 104)) := (((Kp.refl _ _).alloc _).alloc _).alloc _
    have bS : (((w.alloc (.cells #[.slice a1 L.length d1, .slice a2 L.length d2, .int .i64 n] 104)).alloc (.cells #[.int .i64 k, .int .i64 v, .slice a3 ks.length d3] 58)).alloc (.cells #[.slice none 0 0, .slice none 0 0, .int .i64 0] 104)).heap[w.heap.size]? = some (.cells #[.slice a1 L.length d1, .slice a2 L.length d2, .int .i64 n] 104) := heap_old (heap_old (alloc_heap _ _))
    have bX : (((w.alloc (.cells #[.slice a1 L.length d1, .slice a2 L.length d2, .int .i64 n] 104)).alloc (.cells #[.int .i64 k, .int .i64 v, .slice a3 ks.length d3] 58)).alloc (.cells #[.slice none 0 0, .slice none 0 0, .int .i64 0] 104)).heap[w.heap.size + 1]? = some (.cells #[.int .i64 k, .int .i64 v, .slice a3 ks.length d3] 58) := heap_old (heap_at (by simp))
    have bR : (((w.alloc (.cells #[.slice a1 L.length d1, .slice a2 L.length d2, .int .i64 n] 104)).alloc (.cells #[.int .i64 k, .int .i64 v, .slice a3 ks.length d3] 58)).alloc (.cells #[.slice none 0 0, .slice none 0 0, .int .i64 0] 104)).heap[w.heap.size + 1 + 1]? = some (.cells #[.slice none 0 0, .slice none 0 0, .int .i64 0] 104) := heap_at (by simp)
    have z0 : w.heap.size + 1 + 1 < (((w.alloc (.cells #[.slice a1 L.length d1, .slice a2 L.length d2, .int .i64 n] 104)).alloc (.cells #[.int .i64 k, .int .i64 v, .slice a3 ks.length d3] 58)).alloc (.cells #[.slice none 0 0, .slice none 0 0, .int .i64 0] 104)).heap.size := by simp
    have C0 := Lib.hid (h.new N0)
    have hsr := Lib.hid (hs.new (by omega) N0)
    have hsh2 := Lib.hid hsh
    have ihh := Lib.hid ih
    have hlow := Lib.hid h.low
    clear h hs hsh ih
    go_enter Try.func72, Try.ntmps72
    go_upto_region 1 with fail
    generalize (((w.alloc (.cells #[.slice a1 L.length d1, .slice a2 L.length d2, .int .i64 n] 104)).alloc (.cells #[.int .i64 k, .int .i64 v, .slice a3 ks.length d3] 58)).alloc (.cells #[.slice none 0 0, .slice none 0 0, .int .i64 0] 104)) = w0 at *
    clear N0
    by_cases hk1 : k = 1
    · as_aux_lemma =>
        subst hk1
        have hc := Lib.hid (show L ++ [(⟨1, r, v, 0, 0⟩ : Ins)] = L ++ cex (.node 1 v ks) r by rw [cex, if_pos rfl])
        obtain ⟨cS0, cS1, cS2⟩ := cells3 bS
        obtain ⟨cX0, cX1, cX2⟩ := cells3 bX
        go_wp2_with fail
        refine (CmpS.l7Add w0 base _ _ (L) n st ⟨1, r, v, 0, 0⟩ C0.out.start (by omega) (by first | omega | (simp only [List.length_append]; omega))).mono ?_
        rintro e wz ⟨ul, uf, rfl, Cz⟩
        have bRz := Cz.box C0.out.start bR (by decide) (by decide)
        have Ch := Lib.hid (C0.out.trans Cz)
        obtain ⟨⟨p1, q1, rfl⟩, p2, q2, rfl⟩ := Cz.lens
        clear Cz
        skip
        have zz : w.heap.size ≤ wz.heap.size := Ch.out.size
        obtain ⟨cR0, cR1, cR2⟩ := cells3 bRz
        have cRf := frozen_of_heap bRz
        have cRl := heap_lt bRz
        generalize hll : (L ++ [(⟨1, r, v, 0, 0⟩ : Ins)]).length = len at *
        clear hll
        clear cS0 cS1 cS2 cX0 cX1 cX2
        go_wp2
        have hkz := setMany_kp (w.heap.size + 1 + 1) [.slice p1 len q1, .slice p2 len q2, .int .i64 n] wz 0
        have hR := setMany_row [.slice p1 len q1, .slice p2 len q2, .int .i64 n] bRz rfl
        refine bodyPost_ret (results_cell_row rfl _ _ _ _ _ _ _ rfl hR Try.underlying104 rfl (by kernel_rfl)) rfl ?_
        exact ⟨_, _, rfl, by rw [← hc.out]; exact Ch.out.one bRz hkz (by omega) (by decide) (by decide)⟩
    by_cases hk2 : k = 2
    · as_aux_lemma =>
        subst hk2
        have hc := Lib.hid (show L ++ [(⟨2, r, v, 0, 0⟩ : Ins)] = L ++ cex (.node 2 v ks) r by rw [cex, if_neg (by decide), if_pos rfl])
        obtain ⟨cS0, cS1, cS2⟩ := cells3 bS
        obtain ⟨cX0, cX1, cX2⟩ := cells3 bX
        go_wp2_with fail
        refine (CmpS.l7Add w0 base _ _ (L) n st ⟨2, r, v, 0, 0⟩ C0.out.start (by omega) (by first | omega | (simp only [List.length_append]; omega))).mono ?_
        rintro e wz ⟨ul, uf, rfl, Cz⟩
        have bRz := Cz.box C0.out.start bR (by decide) (by decide)
        have Ch := Lib.hid (C0.out.trans Cz)
        obtain ⟨⟨p1, q1, rfl⟩, p2, q2, rfl⟩ := Cz.lens
        clear Cz
        skip
        have zz : w.heap.size ≤ wz.heap.size := Ch.out.size
        obtain ⟨cR0, cR1, cR2⟩ := cells3 bRz
        have cRf := frozen_of_heap bRz
        have cRl := heap_lt bRz
        generalize hll : (L ++ [(⟨2, r, v, 0, 0⟩ : Ins)]).length = len at *
        clear hll
        clear cS0 cS1 cS2 cX0 cX1 cX2
        go_wp2
        have hkz := setMany_kp (w.heap.size + 1 + 1) [.slice p1 len q1, .slice p2 len q2, .int .i64 n] wz 0
        have hR := setMany_row [.slice p1 len q1, .slice p2 len q2, .int .i64 n] bRz rfl
        refine bodyPost_ret (results_cell_row rfl _ _ _ _ _ _ _ rfl hR Try.underlying104 rfl (by kernel_rfl)) rfl ?_
        exact ⟨_, _, rfl, by rw [← hc.out]; exact Ch.out.one bRz hkz (by omega) (by decide) (by decide)⟩
    have n1 : (k == 1) = false := by rw [beq_eq_false_iff_ne]; exact hk1
    have n2 : (k == 2) = false := by rw [beq_eq_false_iff_ne]; exact hk2
    have hkk1 := Lib.hid hk1
    have hkk2 := Lib.hid hk2
    clear hk1 hk2
    obtain ⟨cS0, cS1, cS2⟩ := cells3 bS
    obtain ⟨cX0, cX1, cX2⟩ := cells3 bX
    go_upto_region 7 with fail
    clear n1 n2
    clear cS0 cS1 cS2 cX0 cX1 cX2
    skip
    go_loopw [9] (fun i wr => ∃ (j : Nat) (e1 e2 : Option Addr) (f1 f2 m : Nat), j ≤ ks.length ∧ i = .int .i64 j ∧ wr.heap[w.heap.size]? = some (.cells #[.slice e1 m f1, .slice e2 m f2, .int .i64 n] 104 (0, 0)) ∧ wr.heap[w.heap.size + 1]? = some (.cells #[.int .i64 k, .int .i64 v, .slice a3 ks.length d3] 58 (0, 0)) ∧ wr.heap[w.heap.size + 1 + 1]? = some (.cells #[.slice none 0 0, .slice none 0 0, .int .i64 0] 104 (0, 0)) ∧ CS w base (.slice a1 L.length d1) (.slice a2 L.length d2) (L ++ cexs (ks.take j) r) (.slice e1 m f1) (.slice e2 m f2) wr) (fun i _ => ks.length - (intOf i).toNat)
    case atStart => exact ⟨0, a1, a2, d1, d2, L.length, Nat.zero_le _, rfl, bS, bX, bR, by simpa [cexs] using C0.out⟩
    case round =>
      obtain ⟨j, e1, e2, f1, f2, m, hj, rfl, bS0, bX0, bR0, C⟩ := hrel
      have Ch := Lib.hid C
      have zw := C.size
      clear C C0 bS bX bR z0
      have hd1 : 1 ≤ d := by have := hsh2.out; simp only [shp, Bool.and_eq_true, decide_eq_true_eq] at this; omega
      have hk3 : ks.length ≤ 3 := by rcases EvP.kinds hsh2.out with ⟨_, q, _⟩ | ⟨_, q, _⟩ | ⟨_, q, _⟩ | ⟨_, _, q, _⟩ | ⟨_, q, _⟩ <;> omega
      by_cases hlt : j < ks.length
      · obtain ⟨b', o, s', e, q1, q2, c0, c1, c2, kk⟩ := hsr0.out.at j hlt
        cases e
        have zb' : b' < w.heap.size := by omega
        have e0 := (Ch.out.low2 hst.out (b := b') (by omega) (by omega) (o + j * 3)).trans c0
        have e1c := (Ch.out.low2 hst.out (b := b') (by omega) (by omega) (o + j * 3 + 1)).trans c1
        have e2c := (Ch.out.low2 hst.out (b := b') (by omega) (by omega) (o + j * 3 + 2)).trans c2
        have kkr := Lib.hid (Ch.out.kids hst.out (by omega) (by omega) kk)
        have hkid := Lib.hid (EvP.kids hsh2.out j hlt)
        have hsz := Ex.kids_get ks j hlt
        have hsz2 := Ex.sizes_get ks j hlt
        have hcx := Lib.hid (cexs_take hlt (r : Int))
        have hxe : ks[j] = .node ks[j].kind ks[j].val ks[j].kids := by cases ks[j]; rfl
        have hcl := cexs_len (ks.take j) (r : Int)
        have hszt : Ex.sizes (ks.take j) + ks[j].size ≤ Ex.sizes ks := by have e1 := sizes_td ks j; rw [List.drop_eq_getElem_cons hlt] at e1; simp only [Ex.sizes] at e1; omega
        obtain ⟨x, hx⟩ : ∃ x, ks[j] = x := ⟨_, rfl⟩
        rw [hx] at e0 e1c kkr hkid hsz hsz2 hcx hxe hszt
        have hxs := Ex.size_kids x
        obtain ⟨a4, d4, rfl, hkl4⟩ := kkr.out.len
        have hxeh := Lib.hid hxe
        clear c0 c1 c2 kk hx hxe
        obtain ⟨cS0, cS1, cS2⟩ := cells3 bS0
        obtain ⟨cX0, cX1, cX2⟩ := cells3 bX0
        go_wp2_with fail
        refine wp_region_tail (k := 11) (S := fun w' => w'.cell? ⟨w.heap.size, 0, none⟩ = some (.slice e1 m f1) ∧ w'.cell? ⟨w.heap.size, 1, none⟩ = some (.slice e2 m f2) ∧ w'.cell? ⟨w.heap.size, 2, none⟩ = some (.int .i64 n) ∧ w'.cell? ⟨w.heap.size + 1, 2, none⟩ = some (.slice (some ⟨b', o, none⟩) ks.length d3) ∧ w'.cell? ⟨b', o + j * 3, none⟩ = some (.int .i64 x.kind) ∧ w'.cell? ⟨b', o + j * 3 + 1, none⟩ = some (.int .i64 x.val) ∧ w'.cell? ⟨b', o + j * 3 + 2, none⟩ = some (.slice a4 x.kids.length d4)) (by kernel_rfl) ?_ (fun hHeld => ?_)
        · exact ⟨cS0, cS1, cS2, cX2, e0, e1c, e2c⟩
        refine AnyK.tk 0 rfl ?_
        try simp only [AP]
        refine AnyK.tw 1 rfl ?_
        try simp only [AP]
        refine AnyK.tw 2 rfl ?_
        try simp only [AP]
        refine AnyK.tk 3 rfl ?_
        try simp only [AP]
        refine AnyK.tw 4 rfl ?_
        try simp only [AP]
        refine AnyK.tw 5 rfl ?_
        try simp only [AP]
        refine AnyK.tk 6 rfl ?_
        try simp only [AP]
        refine AnyK.tw 7 rfl ?_
        try simp only [AP]
        refine AnyK.tw 8 rfl ?_
        try simp only [AP]
        refine AnyK.tw 9 rfl ?_
        try simp only [AP]
        refine AnyK.step (i := 10) (by kernel_rfl) rfl (fun K hK => ?_)
        go_simp
        rw [show IntKind.i64.wrap ((r : Int) + (j : Int)) = ((r + j : Nat) : Int) by rw [IntWalk.i64_in _ (by omega)]; rfl]
        have kd : New wr wr.drew := (Kp.refl _ _).drew
        have C1 := Lib.hid (Ch.out.new kd)
        have kk1 := Lib.hid (kkr.out.new (show hi ≤ wr.heap.size by omega) kd)
        have bS1 := heap_new kd bS0
        have bX1 := heap_new kd bX0
        have bR1 := heap_new kd bR0
        refine (ihh.out wr.drew (d - 1) (.slice e1 m f1) (.slice e2 m f2) (L ++ cexs (ks.take j) r) n st (.slice a4 x.kids.length d4) x.kind x.val x.kids (r + j) (by omega) (by rw [← hxeh.out]; exact hkid.out) (show base ≤ wr.heap.size by omega) C1.out.start kk1.out (by simp only [List.length_append]; omega) (by omega)).mono ?_
        rw [← hxeh.out]
        rintro e w1 ⟨ul, uf, rfl, K2⟩
        have z2 := K2.size
        have bS2 := K2.box C1.out.start bS1 (by decide) (by decide)
        have bX2 := K2.box C1.out.start bX1 (by decide) (by decide)
        have bR2 := K2.box C1.out.start bR1 (by decide) (by decide)
        have C2 := Lib.hid (C1.out.trans K2)
        have f0 := (K2.low2 C1.out.start (b := b') (by omega) (show b' < wr.heap.size by omega) (o + j * 3)).trans e0
        have f1' := (K2.low2 C1.out.start (b := b') (by omega) (show b' < wr.heap.size by omega) (o + j * 3 + 1)).trans e1c
        have f2' := (K2.low2 C1.out.start (b := b') (by omega) (show b' < wr.heap.size by omega) (o + j * 3 + 2)).trans e2c
        obtain ⟨dS0, dS1, dS2⟩ := cells3 bS2
        have dX2 := cell_of_heap bX2 2
        obtain ⟨⟨p1, q1, rfl⟩, p2, q2, rfl⟩ := K2.lens
        clear K2 C1 kk1 kd
        refine hK.out _ _ ?_ (fun hHeld2 => ?_)
        · exact ⟨dS0, dS1, dS2, dX2, f0, f1', f2'⟩
        clear hK K hHeld
        have hHeld := hHeld2
        clear hHeld2
        try simp only [AP]
        refine AnyK.last (by kernel_rfl) ?_
        simp only [List.drop_succ_cons, List.drop_zero]
        clear hHeld
        have fS := frozen_of_heap bS2
        have lS := heap_lt bS2
        obtain ⟨mm, hmm⟩ : ∃ mm, (L ++ cexs (ks.take j) r ++ cex x ((r + j : Nat) : Int)).length = mm := ⟨_, rfl⟩
        simp only [hmm] at *
        clear hmm
        have hkz := setMany_kp (w.heap.size) [.slice p1 mm q1, .slice p2 mm q2, .int .i64 n] w1 0
        have hRz := Lib.hid (setMany_row [.slice p1 mm q1, .slice p2 mm q2, .int .i64 n] bS2 rfl)
        have bX3 := Lib.hid ((hkz.block _ (heap_lt bX2) (by omega)).trans bX2)
        have bR3 := Lib.hid ((hkz.block _ (heap_lt bR2) (by omega)).trans bR2)
        have C3 := Lib.hid (C2.out.one bS2 hkz (Nat.le_refl _) (by decide) (by decide))
        clear hkz
        go_wp2
        go_roundw
        case rel => exact ⟨j + 1, p1, p2, q1, q2, mm, by omega, by go_num, hRz.out, bX3.out, bR3.out, by rw [hcx.out, ← List.append_assoc]; exact C3.out⟩
        case measure => simp [intOf]; omega
      · have hall : ks.take j = ks := List.take_of_length_le (by omega)
        rw [hall] at Ch
        have hcl := cexs_len ks (r : Int)
        have hge : ks.length ≤ j := by omega
        clear hall hlt hd1
        rcases EvP.kinds hsh2.out with ⟨h, _⟩ | ⟨h, _⟩ | ⟨rfl, u1, u2, u3⟩ | ⟨g1, g2, g3, rfl⟩ | ⟨rfl, u1, rfl⟩
        · exact absurd h hkk1.out
        · exact absurd h hkk2.out
        · as_aux_lemma =>
            have hc := Lib.hid (show L ++ cexs ks r ++ [(⟨4, r, v, r, 0⟩ : Ins)] = L ++ cex (.node 3 v ks) r by rw [cex, if_neg (by decide), if_neg (by decide), List.append_assoc]; rfl)
            obtain ⟨cS0, cS1, cS2⟩ := cells3 bS0
            obtain ⟨cX0, cX1, cX2⟩ := cells3 bX0
            go_wp2_with fail
            refine (CmpS.l7Add wr base _ _ (L ++ cexs ks r) n st ⟨4, r, v, r, 0⟩ Ch.out.start (by omega) (by first | omega | (simp only [List.length_append]; omega))).mono ?_
            rintro e wz ⟨ul, uf, rfl, Cz⟩
            have bRz := Cz.box Ch.out.start bR0 (by decide) (by decide)
            have Ch := Lib.hid (Ch.out.trans Cz)
            obtain ⟨⟨p1, q1, rfl⟩, p2, q2, rfl⟩ := Cz.lens
            clear Cz
            skip
            have zz : w.heap.size ≤ wz.heap.size := Ch.out.size
            obtain ⟨cR0, cR1, cR2⟩ := cells3 bRz
            have cRf := frozen_of_heap bRz
            have cRl := heap_lt bRz
            generalize hll : (L ++ cexs ks r ++ [(⟨4, r, v, r, 0⟩ : Ins)]).length = len at *
            clear hll
            clear cS0 cS1 cS2 cX0 cX1 cX2
            go_wp2
            have hkz := setMany_kp (w.heap.size + 1 + 1) [.slice p1 len q1, .slice p2 len q2, .int .i64 n] wz 0
            have hR := setMany_row [.slice p1 len q1, .slice p2 len q2, .int .i64 n] bRz rfl
            refine bodyPost_ret (results_cell_row rfl _ _ _ _ _ _ _ rfl hR Try.underlying104 rfl (by kernel_rfl)) rfl ?_
            exact ⟨_, _, rfl, by rw [← hc.out]; exact Ch.out.one bRz hkz (by omega) (by decide) (by decide)⟩
        · as_aux_lemma =>
            have n3 : (k == 3) = false := by rw [beq_eq_false_iff_ne]; omega
            have n4 : (k == 11) = false := by rw [beq_eq_false_iff_ne]; omega
            have hc := Lib.hid (show L ++ cexs ks r ++ [(⟨6, r, k, r, (r : Int) + 1⟩ : Ins)] = L ++ cex (.node k 0 ks) r by rw [cex, if_neg (by omega), if_neg (by omega), List.append_assoc, opI, if_neg (by omega), if_neg (by omega)])
            obtain ⟨cS0, cS1, cS2⟩ := cells3 bS0
            obtain ⟨cX0, cX1, cX2⟩ := cells3 bX0
            go_wp2_with fail
            refine (CmpS.l7Add wr base _ _ (L ++ cexs ks r) n st ⟨6, r, k, r, (r : Int) + 1⟩ Ch.out.start (by omega) (by first | omega | (simp only [List.length_append]; omega))).mono ?_
            rintro e wz ⟨ul, uf, rfl, Cz⟩
            have bRz := Cz.box Ch.out.start bR0 (by decide) (by decide)
            have Ch := Lib.hid (Ch.out.trans Cz)
            obtain ⟨⟨p1, q1, rfl⟩, p2, q2, rfl⟩ := Cz.lens
            clear Cz
            skip
            have zz : w.heap.size ≤ wz.heap.size := Ch.out.size
            obtain ⟨cR0, cR1, cR2⟩ := cells3 bRz
            have cRf := frozen_of_heap bRz
            have cRl := heap_lt bRz
            generalize hll : (L ++ cexs ks r ++ [(⟨6, r, k, r, (r : Int) + 1⟩ : Ins)]).length = len at *
            clear hll
            clear cS0 cS1 cS2 cX0 cX1 cX2
            go_wp2
            have hkz := setMany_kp (w.heap.size + 1 + 1) [.slice p1 len q1, .slice p2 len q2, .int .i64 n] wz 0
            have hR := setMany_row [.slice p1 len q1, .slice p2 len q2, .int .i64 n] bRz rfl
            refine bodyPost_ret (results_cell_row rfl _ _ _ _ _ _ _ rfl hR Try.underlying104 rfl (by kernel_rfl)) rfl ?_
            exact ⟨_, _, rfl, by rw [← hc.out]; exact Ch.out.one bRz hkz (by omega) (by decide) (by decide)⟩
        · as_aux_lemma =>
            have hc := Lib.hid (show L ++ cexs ks r ++ [(⟨7, r, r, (r : Int) + 1, (r : Int) + 2⟩ : Ins)] = L ++ cex (.node 11 0 ks) r by rw [cex, if_neg (by decide), if_neg (by decide), List.append_assoc]; rfl)
            obtain ⟨cS0, cS1, cS2⟩ := cells3 bS0
            obtain ⟨cX0, cX1, cX2⟩ := cells3 bX0
            go_wp2_with fail
            refine (CmpS.l7Add wr base _ _ (L ++ cexs ks r) n st ⟨7, r, r, (r : Int) + 1, (r : Int) + 2⟩ Ch.out.start (by omega) (by first | omega | (simp only [List.length_append]; omega))).mono ?_
            rintro e wz ⟨ul, uf, rfl, Cz⟩
            have bRz := Cz.box Ch.out.start bR0 (by decide) (by decide)
            have Ch := Lib.hid (Ch.out.trans Cz)
            obtain ⟨⟨p1, q1, rfl⟩, p2, q2, rfl⟩ := Cz.lens
            clear Cz
            skip
            have zz : w.heap.size ≤ wz.heap.size := Ch.out.size
            obtain ⟨cR0, cR1, cR2⟩ := cells3 bRz
            have cRf := frozen_of_heap bRz
            have cRl := heap_lt bRz
            generalize hll : (L ++ cexs ks r ++ [(⟨7, r, r, (r : Int) + 1, (r : Int) + 2⟩ : Ins)]).length = len at *
            clear hll
            clear cS0 cS1 cS2 cX0 cX1 cX2
            go_wp2
            have hkz := setMany_kp (w.heap.size + 1 + 1) [.slice p1 len q1, .slice p2 len q2, .int .i64 n] wz 0
            have hR := setMany_row [.slice p1 len q1, .slice p2 len q2, .int .i64 n] bRz rfl
            refine bodyPost_ret (results_cell_row rfl _ _ _ _ _ _ _ rfl hR Try.underlying104 rfl (by kernel_rfl)) rfl ?_
            exact ⟨_, _, rfl, by rw [← hc.out]; exact Ch.out.one bRz hkz (by omega) (by decide) (by decide)⟩
end Go.Proofs.Ytckikiaockkmbaa.CmpE
