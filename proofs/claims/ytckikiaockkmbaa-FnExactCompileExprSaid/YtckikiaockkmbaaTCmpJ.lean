/- The code of an expression by impl. Conditions: the expression is valid; bounds on lengths. -/
import Derived.Test.YtckikiaockkmbaaTCmpI
import Derived.Test.YtckikiaockkmbaaTP2
import Derived.Test.YtckikiaockkmbaaTP1
namespace Go.Proofs.Ytckikiaockkmbaa.CmpJ
open Go.RowKit Kit Val CmpP CmpI
set_option linter.unusedVariables false
/-- what a call that adds code answers -/
def Em (w : World) (base p : Nat) (vl vf : Value) (M : List Ins) (o n : Int) (e : Ending) (w' : World) : Prop := e = .returned (.tuple #[]) ∧ ∃ ul uf, CI w base p vl vf M ul uf o n w'
theorem emitL {w0 w : World} {base p : Nat} {vl vf ul uf : Value} {L : List Ins} {o n : Int} (op : Int) (xs : List Int) (h : CI w0 base p vl vf L ul uf o n w) (hbase : base ≤ w.heap.size) (hl : xs.length ≤ 4) (hL : L.length ≤ 1000000) :
    Calls Try.prog 115 #[.pointer (some ⟨p, 0, none⟩), .int .i64 op, .slice (some ⟨w.heap.size, 0, none⟩) xs.length xs.length] (w.alloc (.cells (xs.map fun x => Value.int .i64 x).toArray 3)) (Em w0 base p vl vf (L ++ [insOf op xs]) o n) := by
  have k : New w (w.alloc (.cells (xs.map fun x => Value.int .i64 x).toArray 3)) := (Kp.refl _ _).alloc _
  have hz := heap_lt h.cells
  refine (emit op xs (h.new k) (by have := k.size; omega) (by have := k.size; omega) (OwnF.mk' (enc := encI) (n := 1) (xs := xs) (base := w.heap.size) (alloc_heap w _) (Nat.le_refl _) (Nat.le_refl _) (by show xs.length ≤ 9223372036854775807; omega) (by simp) fun i hi t ht => ?_) h.size (by simp) (fun b e => (h.low.2 b e).2) hl hL).mono ?_
  · obtain rfl : t = 0 := by omega
    simp [hi]
  · rintro e w' ⟨rfl, ul', uf', C⟩
    exact ⟨rfl, ul', uf', C⟩
set_option maxHeartbeats 8000000 in
set_option maxRecDepth 100000 in
theorem expr (lo hi base nv na : Nat) (hb1 : hi ≤ base) : ∀ (N : Nat) (w : World) (d p : Nat) (vl vf : Value) (L : List Ins) (o n : Int) (s : Value) (k v : Int) (ks : List Ex) (r : Nat), Ex.sizes ks < N → shp nv na (.node k v ks) d = true → base ≤ w.heap.size → base ≤ p → CI w base p vl vf L vl vf o n w → KidsR w lo hi s ks → L.length + Ex.sizes ks + 1 ≤ 1000000 → r + 3 * d ≤ 1000 →
    Calls Try.prog 77 #[.pointer (some ⟨p, 0, none⟩), .agg #[.int .i64 k, .int .i64 v, s], .int .i64 r] w (Em w base p vl vf (L ++ cex (.node k v ks) r) o n) := by
  intro N
  induction N with
  | zero => intro w d p vl vf L o n s k v ks r h; exact absurd h (Nat.not_lt_zero _)
  | succ N ih =>
    intro w d p vl vf L o n s k v ks r hn hsh hbw hbp h hs hL hr
    have hst := Lib.hid h
    have hsr0 := Lib.hid hs
    obtain ⟨a3, d3, rfl, hkl⟩ := hs.len
    have N0 : New w (w.alloc (.cells #[.int .i64 k, .int .i64 v, .slice a3 ks.length d3] 58)) := (Kp.refl _ _).alloc _
    have bX : (w.alloc (.cells #[.int .i64 k, .int .i64 v, .slice a3 ks.length d3] 58)).heap[w.heap.size]? = some (.cells #[.int .i64 k, .int .i64 v, .slice a3 ks.length d3] 58) := alloc_heap _ _
    have C0 := Lib.hid (h.new N0)
    have hsh2 := Lib.hid hsh
    have ihh := Lib.hid ih
    have z0 := N0.size
    clear h hs hsh ih
    go_enter Try.func77, Try.ntmps77
    go_upto_region 1 with fail
    generalize w.alloc (.cells #[.int .i64 k, .int .i64 v, .slice a3 ks.length d3] 58) = w0 at *
    clear N0
    obtain ⟨cX0, cX1, cX2⟩ := cells3 bX
    by_cases hk1 : k = 1
    · as_aux_lemma =>
        subst hk1
        have hc := Lib.hid (show L ++ [(⟨1, r, v, 0, 0⟩ : Ins)] = L ++ cex (.node 1 v ks) r by rw [cex, if_pos rfl])
        go_wp2_with fail
        refine (emitL 1 [(r : Int), v] C0.out (by omega) (by simp) (by omega)).mono ?_
        rintro e w1 ⟨rfl, ul, uf, C⟩
        have Ch := Lib.hid C
        clear C cX0 cX1 cX2
        go_wp2
        exact Go.Great.bodyPost_end0 rfl rfl ⟨rfl, ul, uf, by rw [← hc.out]; exact Ch.out⟩
    by_cases hk2 : k = 2
    · as_aux_lemma =>
        subst hk2
        have hc := Lib.hid (show L ++ [(⟨2, r, v, 0, 0⟩ : Ins)] = L ++ cex (.node 2 v ks) r by rw [cex, if_neg (by decide), if_pos rfl])
        go_wp2_with fail
        refine (emitL 2 [(r : Int), v] C0.out (by omega) (by simp) (by omega)).mono ?_
        rintro e w1 ⟨rfl, ul, uf, C⟩
        have Ch := Lib.hid C
        clear C cX0 cX1 cX2
        go_wp2
        exact Go.Great.bodyPost_end0 rfl rfl ⟨rfl, ul, uf, by rw [← hc.out]; exact Ch.out⟩
    have n1 : (k == 1) = false := by rw [beq_eq_false_iff_ne]; exact hk1
    have n2 : (k == 2) = false := by rw [beq_eq_false_iff_ne]; exact hk2
    have hkk1 := Lib.hid hk1
    have hkk2 := Lib.hid hk2
    clear hk1 hk2
    go_upto_region 7 with fail
    clear n1 n2 cX0 cX1 cX2
    go_loopw [29] (fun i wr => ∃ (j : Nat) (ul uf : Value), j ≤ ks.length ∧ i = .int .i64 j ∧ wr.heap[w.heap.size]? = some (.cells #[.int .i64 k, .int .i64 v, .slice a3 ks.length d3] 58 (0, 0)) ∧ CI w base p vl vf (L ++ cexs (ks.take j) r) ul uf o n wr) (fun i _ => ks.length - (intOf i).toNat)
    case atStart => exact ⟨0, vl, vf, Nat.zero_le _, rfl, bX, by simpa [cexs] using C0.out⟩
    case round =>
      obtain ⟨j, ul, uf, hj, rfl, bX0, C⟩ := hrel
      have Ch := Lib.hid C
      have zw := C.size
      clear C C0 bX z0
      have hd1 : 1 ≤ d := by have := hsh2.out; simp only [shp, Bool.and_eq_true, decide_eq_true_eq] at this; omega
      have hk3 : ks.length ≤ 3 := by rcases EvP.kinds hsh2.out with ⟨_, q, _⟩ | ⟨_, q, _⟩ | ⟨_, q, _⟩ | ⟨_, _, q, _⟩ | ⟨_, q, _⟩ <;> omega
      by_cases hlt : j < ks.length
      · obtain ⟨b', o', s', e, q1, q2, c0, c1, c2, kk⟩ := hsr0.out.at j hlt
        cases e
        have zb' : b' < w.heap.size := by omega
        have e0 := (Ch.out.low2 hst.out hbp (b := b') (by omega) (by omega) (o' + j * 3)).trans c0
        have e1c := (Ch.out.low2 hst.out hbp (b := b') (by omega) (by omega) (o' + j * 3 + 1)).trans c1
        have e2c := (Ch.out.low2 hst.out hbp (b := b') (by omega) (by omega) (o' + j * 3 + 2)).trans c2
        have kkr := Lib.hid (Ch.out.kids hst.out hbp (by omega) (by omega) kk)
        have hkid := Lib.hid (EvP.kids hsh2.out j hlt)
        have hsz := Ex.kids_get ks j hlt
        have hsz2 := Ex.sizes_get ks j hlt
        have hcx := Lib.hid (cexs_take hlt (r : Int))
        have hxe : ks[j] = .node ks[j].kind ks[j].val ks[j].kids := by cases ks[j]; rfl
        have hcl := cexs_len (ks.take j) (r : Int)
        have hszt : Ex.sizes (ks.take j) + ks[j].size ≤ Ex.sizes ks := by have e1 := sizes_td ks j; rw [List.drop_eq_getElem_cons hlt] at e1; simp only [Ex.sizes] at e1; omega
        obtain ⟨x, hx⟩ : ∃ x, ks[j] = x := ⟨_, rfl⟩
        rw [hx] at e0 e1c kkr hkid hsz hsz2 hcx hxe hszt
        have hxs := Ex.size_kids x
        obtain ⟨a4, d4, rfl, hkl4⟩ := kkr.out.len
        have hxeh := Lib.hid hxe
        clear c0 c1 c2 kk hx hxe
        have kd : New wr (wr.alloc (.cells #[.int .i64 x.kind, .int .i64 x.val, .slice a4 x.kids.length d4] 58)) := (Kp.refl _ _).alloc _
        have C1 := Lib.hid (Ch.out.new kd)
        have kk1 := Lib.hid (kkr.out.new (show hi ≤ wr.heap.size by omega) kd)
        have bX1 := heap_new kd bX0
        have z1 := kd.size
        clear kd bX0 Ch
        go_wp2_with fail
        rw [show (r : Int) + (j : Int) = ((r + j : Nat) : Int) by omega]
        refine (ihh.out _ (d - 1) p ul uf (L ++ cexs (ks.take j) r) o n (.slice a4 x.kids.length d4) x.kind x.val x.kids (r + j) (by omega) (by rw [← hxeh.out]; exact hkid.out) (by omega) hbp C1.out.start kk1.out (by simp only [List.length_append]; omega) (by omega)).mono ?_
        rw [← hxeh.out]
        rintro e w1 ⟨rfl, ul', uf', K2⟩
        have bX2 := K2.box C1.out.start bX1 (by decide) (by decide) (by decide)
        have C2 := Lib.hid (C1.out.trans K2)
        clear K2 C1 kk1 bX1 e0 e1c e2c
        go_wp2
        go_roundw
        case rel => exact ⟨j + 1, ul', uf', by omega, by go_num, bX2, by rw [hcx.out, ← List.append_assoc]; exact C2.out⟩
        case measure => simp [intOf]; omega
      · have hall : ks.take j = ks := List.take_of_length_le (by omega)
        rw [hall] at Ch
        have hcl := cexs_len ks (r : Int)
        have hge : ks.length ≤ j := by omega
        clear hall hlt hd1
        obtain ⟨cX0, cX1, cX2⟩ := cells3 bX0
        rcases EvP.kinds hsh2.out with ⟨h, _⟩ | ⟨h, _⟩ | ⟨rfl, u1, u2, u3⟩ | ⟨g1, g2, g3, rfl⟩ | ⟨rfl, u1, rfl⟩
        · exact absurd h hkk1.out
        · exact absurd h hkk2.out
        · as_aux_lemma =>
            have hc := Lib.hid (show L ++ cexs ks r ++ [(⟨4, r, v, r, 0⟩ : Ins)] = L ++ cex (.node 3 v ks) r by rw [cex, if_neg (by decide), if_neg (by decide), List.append_assoc]; rfl)
            go_wp2_with fail
            refine (emitL 4 [(r : Int), v, r] Ch.out (by omega) (by simp) (by simp only [List.length_append]; omega)).mono ?_
            rintro e w1 ⟨rfl, ul', uf', C⟩
            have Ci := Lib.hid C
            clear C cX0 cX1 cX2
            go_wp2
            exact Go.Great.bodyPost_end0 rfl rfl ⟨rfl, ul', uf', by rw [← hc.out]; exact Ci.out⟩
        · as_aux_lemma =>
            have n3 : (k == 3) = false := by rw [beq_eq_false_iff_ne]; omega
            have n4 : (k == 11) = false := by rw [beq_eq_false_iff_ne]; omega
            have hc := Lib.hid (show L ++ cexs ks r ++ [(⟨6, r, k, r, (r : Int) + 1⟩ : Ins)] = L ++ cex (.node k 0 ks) r by rw [cex, if_neg (by omega), if_neg (by omega), List.append_assoc, opI, if_neg (by omega), if_neg (by omega)])
            go_wp2_with fail
            refine (emitL 6 [(r : Int), k, r, (r : Int) + 1] Ch.out (by omega) (by simp) (by simp only [List.length_append]; omega)).mono ?_
            rintro e w1 ⟨rfl, ul', uf', C⟩
            have Ci := Lib.hid C
            clear C cX0 cX1 cX2 n3 n4
            go_wp2
            exact Go.Great.bodyPost_end0 rfl rfl ⟨rfl, ul', uf', by rw [← hc.out]; exact Ci.out⟩
        · as_aux_lemma =>
            have hc := Lib.hid (show L ++ cexs ks r ++ [(⟨7, r, r, (r : Int) + 1, (r : Int) + 2⟩ : Ins)] = L ++ cex (.node 11 0 ks) r by rw [cex, if_neg (by decide), if_neg (by decide), List.append_assoc]; rfl)
            go_wp2_with fail
            refine (emitL 7 [(r : Int), r, (r : Int) + 1, (r : Int) + 2] Ch.out (by omega) (by simp) (by simp only [List.length_append]; omega)).mono ?_
            rintro e w1 ⟨rfl, ul', uf', C⟩
            have Ci := Lib.hid C
            clear C cX0 cX1 cX2
            go_wp2
            exact Go.Great.bodyPost_end0 rfl rfl ⟨rfl, ul', uf', by rw [← hc.out]; exact Ci.out⟩
end Go.Proofs.Ytckikiaockkmbaa.CmpJ
