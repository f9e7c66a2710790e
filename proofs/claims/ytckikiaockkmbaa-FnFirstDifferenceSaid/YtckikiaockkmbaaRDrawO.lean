/- Draws of traces: DrawProjectTrace, DrawTraceSame, DrawFirstDifference. No conditions. -/
import Derived.Test.YtckikiaockkmbaaRDrawJ
import Derived.Test.YtckikiaockkmbaaRP5
import Derived.Test.YtckikiaockkmbaaRP1
namespace Go.Proofs.Ytckikiaockkmbaa.DrawO
open Go.RowKit Kit Draw DrawX
set_option linter.unusedVariables false
theorem own_cellsE {w : World} {base n d : Nat} {a : Option Addr} {T : TypeId} {xs : List Ev} (h : OwnF 2 encE w base T (.slice a n d) xs) (h0 : 0 < xs.length) :
    n = xs.length ∧ ∃ b, a = some ⟨b, 0, none⟩ ∧ (∀ i (h : i < xs.length), w.cell? ⟨b, i * 2, none⟩ = some (.int .i64 xs[i].1) ∧ w.cell? ⟨b, i * 2 + 1, none⟩ = some (.int .i64 xs[i].2)) ∧ ∀ i, w.frozen? ⟨b, i, none⟩ = false := by
  rcases h.form with ⟨e, _⟩ | ⟨b, cap, cs, e, hb, _, _, hh, hn, hc⟩
  · subst e; exact absurd h0 (Nat.lt_irrefl _)
  · cases e
    exact ⟨rfl, b, rfl, fun i hi => ⟨(cell_of_heap hh _).trans (hc i hi 0 (by omega)), (cell_of_heap hh _).trans (hc i hi 1 (by omega))⟩, fun i => frozen_of_heap hh i⟩
/-- one cell of one event is changed -/
theorem own_setE {w : World} {base b cap : Nat} {T : TypeId} {xs : List Ev} (h : OwnF 2 encE w base T (.slice (some ⟨b, 0, none⟩) xs.length cap) xs) (j : Nat) (hj : j < xs.length) (t : Nat) (ht : t < 2) (y : Ev) (u : Value) (hu : ∀ q, q < 2 → encE y q = if q = t then u else encE xs[j] q) :
    OwnF 2 encE (w.setCell ⟨b, j * 2 + t, none⟩ u) base T (.slice (some ⟨b, 0, none⟩) xs.length cap) (xs.set j y) := by
  rcases h.form with ⟨e, _⟩ | ⟨b', cap', cs, e, hb1, hb2, hb3, hh, hs, hc⟩
  · subst e; exact absurd hj (Nat.not_lt_zero _)
  · cases e
    have := OwnF.mk' (enc := encE) (n := 2) (xs := xs.set j y) (base := base) (setCell_heap (o := j * 2 + t) hh u) hb1 (by simpa using hb2) hb3 (by simpa using hs) (fun i hi q hq => by
      have hi2 : i < xs.length := by simpa using hi
      rw [Array.getElem?_setIfInBounds]
      by_cases e : j = i
      · subst e
        rw [List.getElem_set_self, hu q hq]
        by_cases e2 : q = t
        · subst e2
          have hlt : j * 2 + q < cs.size := by omega
          simp [hlt]
        · rw [if_neg (by omega), if_neg e2]; exact hc j hj q hq
      · rw [List.getElem_set_ne e, if_neg (by omega)]; exact hc i hi2 q hq)
    rw [List.length_set] at this
    exact this
theorem own_set1 {w : World} {base b cap : Nat} {T : TypeId} {xs : List Ev} (h : OwnF 2 encE w base T (.slice (some ⟨b, 0, none⟩) xs.length cap) xs) (j : Nat) (hj : j < xs.length) (z : Int) : OwnF 2 encE (w.setCell ⟨b, j * 2 + 1, none⟩ (.int .i64 z)) base T (.slice (some ⟨b, 0, none⟩) xs.length cap) (xs.set j (xs[j].1, z)) :=
  own_setE h j hj 1 (by omega) _ _ fun q hq => by match q, hq with | 0, _ => rfl | 1, _ => rfl
theorem take_r {α : Type} {n : Nat} {enc : α → Nat → Value} {w : World} {lo hi m cap : Nat} {a : Option Addr} {xs : List α} (h : FlR n enc w lo hi (.slice a m cap) xs) (k : Nat) (hk : k ≤ xs.length) : FlR n enc w lo hi (.slice a k cap) (xs.take k) := by
  cases h with
  | nil a cap => simp at hk; subst hk; exact .nil _ _
  | cons b o cap xs h0 hlo hhi hcap hmax c =>
    by_cases k0 : k = 0
    · subst k0; exact .nil _ _
    · have := FlR.cons (n := n) (enc := enc) (w := w) (lo := lo) (hi := hi) b o cap (xs.take k) (by simp; omega) hlo hhi (by simp; omega) hmax (fun i h t ht => by rw [List.getElem_take]; exact c i _ t ht)
      rwa [List.length_take, Nat.min_eq_left hk] at this
theorem shape_r {α : Type} {n : Nat} {enc : α → Nat → Value} {w : World} {lo hi m cap : Nat} {a : Option Addr} {xs : List α} (h : FlR n enc w lo hi (.slice a m cap) xs) (k : Nat) (h1 : 1 ≤ k) (hk : k ≤ xs.length) : ∃ b o, a = some ⟨b, o, none⟩ ∧ k ≤ cap ∧ cap ≤ 9223372036854775807 := by
  cases h with
  | nil a cap => simp at hk; omega
  | cons b o cap xs h0 hlo hhi hcap hmax c => exact ⟨b, o, rfl, by omega, hmax⟩
/-- events of the call's own -/
def GotL (w : World) (e : Ending) (w' : World) : Prop := ∃ (ev : Value) (lE : List Ev), e = .returned ev ∧ New w w' ∧ OwnF 2 encE w' w.heap.size 32 ev lE ∧ lE.length ≤ 1000000
/-- on the way of the loop -/
def PL (w : World) (br base : Nat) (aE : Option Addr) (dE n j : Nat) (wr : World) : Prop := ∃ (l : List Ev) (q : Nat), l.length = n ∧ New w wr ∧ Rd wr br q ∧ q ≤ 3200000 + 2 * j ∧ OwnF 2 encE wr base 32 (.slice aE n dE) l
/-- two traces -/
def GotLL (w : World) (e : Ending) (w' : World) : Prop := ∃ (va vb : Value) (la lb : List Ev), e = .returned (.tuple #[va, vb]) ∧ New w w' ∧ EvsR w' w.heap.size w'.heap.size va la ∧ EvsR w' w.heap.size w'.heap.size vb lb ∧ la.length ≤ 1000000 ∧ lb.length ≤ 1000000
set_option maxHeartbeats 8000000 in
set_option maxRecDepth 100000 in
theorem drawSame (w : World) (a : Option Addr) (len cap : Nat) (h : Src w a len cap) : Calls Try.prog 59 #[.slice a len cap] w (GotLL w) := by
  go_enter Try.func59, Try.ntmps59
  go_wp2_with fail
  refine (Draw.l17Open w _ _ _ h.1 h.2.1 h.2.2).mono ?_
  rintro e w1 ⟨rfl, hn1, r1⟩
  clear h
  generalize hbr : w.heap.size = br at *
  have hwbr : w.heap.size ≤ br := Nat.le_of_eq hbr
  have hwbr2 : br ≤ w.heap.size := Nat.le_of_eq hbr.symm
  clear hbr
  have hbl := r1.lt
  go_wp2_with fail
  refine (DrawJ.l3Trace w1 br 0 r1 (by omega)).mono ?_
  rintro e w2 ⟨ev, lE, q, rfl, hn2, r2, hq, hE, hl⟩
  have N2 : New w w2 := New.one hn1 hn2 hwbr
  obtain ⟨aE, dE, rfl, hn63⟩ := hE.reads.len
  have zb := hn2.size
  obtain ⟨n, hn⟩ : ∃ n, lE.length = n := ⟨_, rfl⟩
  rw [hn] at hE hl hn63 ⊢
  have hnh := Lib.hid hn
  have hlh := Lib.hid hl
  have hEh := Lib.hid hE
  have hq6 : q ≤ 3200000 := by omega
  have hbr2 := r2.lt
  have hlt2 := Lib.hid (fun c e => (hE.lt c e))
  have hO := Lib.hid (OwnF.empty (α := Ev) (n := 2) (enc := encE) w2 32 (base := w2.heap.size) (Nat.le_refl _))
  have kA : New w2 (w2.alloc (.cells #[] 32)) := (Kp.refl _ _).alloc _
  have hEA := Lib.hid (hE.new kA)
  have NA := N2.trans kA
  have rA := r2.nw kA
  clear hE hn1 r1 hn2 N2 r2 kA hn hl hq
  go_wp2_with (at_builtin; refine wpList_pushesN rfl _ _ 23 rfl w2.heap.size 32 _ 16 Try.underlying23 EvI.infoE rfl (by decide) _ [] rfl hO.out _ lE rfl hEA.out.reads (fun q _ => EvI.oneE q) ?ca ?cb ?cc ?_)
  case ca => have := hlh.out; have := hnh.out; simp; omega
  case cb => have := hlh.out; have := hnh.out; simp; omega
  case cc => simp
  intro v4 w4 hv4 hk4 ha4
  have hown : ∀ b, (Value.slice (some ⟨w2.heap.size, 0, none⟩) 0 0).ownBlock = some b → b = w2.heap.size := fun b e => by simpa [Value.ownBlock] using e.symm
  have N4 := Lib.hid (New.on NA hk4 (fun b e => by have := hown b e; omega))
  have r4 := rA.keep hk4 (fun b e => by have := hown b e; omega)
  have E4 := Lib.hid (hEA.out.kp hk4 fun c e1 e2 => by have := hown c e2; have := (hlt2.out c e1).2; omega)
  have V4 := Lib.hid hv4
  obtain ⟨aF, dF, hF, -⟩ := hv4.reads.len
  replace hF : v4 = .slice aF n dF := by rw [hF, ← hnh.out]
  subst hF
  have z4 : w2.heap.size < w4.heap.size := by have := hk4.size; simp at this; omega
  clear hO hEA hv4 hk4 ha4 NA rA hown
  generalize w2.heap.size = base2 at *
  go_wp2_with fail
  refine (pick w4 br q _ r4 (by omega)).mono ?_
  rintro e w5 ⟨u, rfl, u0, u1, u2, hn5, r5⟩
  have N5 := Lib.hid (New.one N4.out hn5 hwbr)
  have E5 := Lib.hid (E4.out.kp hn5 fun c e1 e2 => by have := (hlt2.out c e1).1; omega)
  have V5 := Lib.hid (V4.out.kp hn5 fun c e1 e2 => by have := (V4.out.lt c e1).1; omega)
  have z5 := hn5.size
  clear N4 E4 V4 hn5 r4 u0 u1 u2
  have fin : ∀ (w9 : World) (u9 v9 : Value) (la lb : List Ev), New w w9 → EvsR w9 w.heap.size w9.heap.size u9 la → EvsR w9 w.heap.size w9.heap.size v9 lb → la.length ≤ 1000000 → lb.length ≤ 1000000 → GotLL w (.returned (.tuple #[u9, v9])) w9 := fun w9 u9 v9 la lb a b c d e => ⟨u9, v9, la, lb, rfl, a, b, c, d, e⟩
  by_cases h0 : u = 0
  · subst h0
    go_wp2_with fail
    refine (DrawJ.l3Trace w5 br (q + 1) r5 (by omega)).mono ?_
    rintro e w6 ⟨ev6, l6, q6, rfl, hn6, r6, hq6, hE6, hl6⟩
    have N6 := Lib.hid (New.one N5.out hn6 hwbr)
    have E6 := Lib.hid (E5.out.kp hn6 fun c e1 e2 => by have := (hlt2.out c e1).1; omega)
    have z6 := hn6.size
    have z50 := Lib.hid (N5.out.size)
    have hE6h := Lib.hid hE6
    clear hn6 r6 hE6 hq6
    obtain ⟨a6, d6, rfl, _⟩ := hE6h.out.reads.len
    go_wp2
    refine bodyPost_ret (EvS.results_tmp2 rfl _ _) rfl ?_
    exact fin _ _ _ lE l6 N6.out (E6.out.reads.mono (by omega) (Nat.le_refl _)) (hE6h.out.reads.mono z50.out (Nat.le_refl _)) (by rw [hnh.out]; exact hlh.out) hl6
  have e0 : (u == 0) = false := by simpa using h0
  clear h0
  by_cases h1 : u = 1
  · subst h1
    by_cases hn0 : 0 < n
    · go_wp2_with fail
      refine (pick w5 br (q + 1) _ r5 (by omega)).mono ?_
      rintro e w6 ⟨v, rfl, v0, v1, v2, hn6, r6⟩
      have v3 := v1 (by omega)
      obtain ⟨j, rfl⟩ := Int.eq_ofNat_of_zero_le v0
      have hj : j < n := by omega
      have N6 := Lib.hid (New.one N5.out hn6 hwbr)
      have E6 := Lib.hid (E5.out.kp hn6 fun c e1 e2 => by have := (hlt2.out c e1).1; omega)
      have V6 := Lib.hid (V5.out.kp hn6 fun c e1 e2 => by have := (V5.out.lt c e1).1; omega)
      have z6 := hn6.size
      clear hn6 N5 E5 V5 v0 v1 v2 v3 r5
      go_wp2_with fail
      refine (DrawV.l3Value w6 br (q + 1 + 1) r6 (by omega)).mono ?_
      rintro e w7 ⟨x, rfl, hx, hn7, r7⟩
      have N7 := Lib.hid (New.one N6.out hn7 hwbr)
      have E7 := Lib.hid (E6.out.kp hn7 fun c e1 e2 => by have := (hlt2.out c e1).1; omega)
      have V7 := Lib.hid (V6.out.kp hn7 fun c e1 e2 => by have := (V6.out.lt c e1).1; omega)
      have z7 := hn7.size
      clear hn7 N6 E6 V6 hx r6
      obtain ⟨-, b, e', hc, hf⟩ := own_cellsE V7.out (by rw [hnh.out]; exact hn0)
      cases e'
      have hjl : j < lE.length := by rw [hnh.out]; exact hj
      have c1 := (hc j hjl).2
      have hbb := (V7.out.lt b (by simp [Value.ownBlock])).1
      have kk : Kp (fun c => c = b) w7 (w7.setCell ⟨b, j * 2 + 1, none⟩ (.int .i64 x)) := (Kp.refl (fun c => c = b) _).setCell (.inl rfl) _
      have N8 := Lib.hid (New.one N7.out kk (by omega))
      have E8 := Lib.hid (E7.out.kp kk fun c e1 e2 => by have := (hlt2.out c e1).2; omega)
      have hVl : n = lE.length := by rw [hnh.out]
      have V8 := Lib.hid (own_set1 (show OwnF 2 encE w7 base2 32 (.slice (some ⟨b, 0, none⟩) lE.length dF) lE by rw [← hVl]; exact V7.out) j hjl x)
      rw [← hVl] at V8
      have z8 := kk.size
      have zN := Lib.hid (N7.out.size)
      clear kk hc r7 N7 E7 V7 hVl
      go_wp2
      refine bodyPost_ret (EvS.results_tmp2 rfl _ _) rfl ?_
      have hA := E8.out.reads.mono (lo' := w.heap.size) (by omega) (Nat.le_refl _)
      have hB := V8.out.reads.mono (lo' := w.heap.size) (by omega) (Nat.le_refl _)
      exact fin _ _ _ lE _ N8.out hA hB (by rw [hnh.out]; exact hlh.out) (by rw [List.length_set, hnh.out]; exact hlh.out)
    · obtain rfl : n = 0 := by omega
      go_wp2
      refine bodyPost_ret (EvS.results_tmp2 rfl _ _) rfl ?_
      exact fin _ _ _ lE _ N5.out (E5.out.reads.mono (by omega) (Nat.le_refl _)) (V5.out.reads.mono (by omega) (Nat.le_refl _)) (by rw [hnh.out]; exact hlh.out) (by rw [hnh.out]; exact hlh.out)
  have e1 : (u == 1) = false := by simpa using h1
  clear h1
  by_cases h2 : u = 2
  · subst h2
    by_cases hn0 : 0 < n
    · obtain ⟨m, rfl⟩ : ∃ m, n = m + 1 := ⟨n - 1, by omega⟩
      obtain ⟨b, o, rfl, hs1, hs2⟩ := shape_r V5.out.reads (m + 1) (by omega) (by rw [hnh.out]; exact Nat.le_refl _)
      have hmd : m ≤ dF := by omega
      have hT := Lib.hid (take_r V5.out.reads m (by rw [hnh.out]; omega))
      go_wp2
      refine bodyPost_ret (EvS.results_tmp2 rfl _ _) rfl ?_
      exact fin _ _ _ lE _ N5.out (E5.out.reads.mono (by omega) (Nat.le_refl _)) (hT.out.mono (by omega) (Nat.le_refl _)) (by rw [hnh.out]; exact hlh.out) (by have := hlh.out; rw [List.length_take]; omega)
    · obtain rfl : n = 0 := by omega
      go_wp2
      refine bodyPost_ret (EvS.results_tmp2 rfl _ _) rfl ?_
      exact fin _ _ _ lE _ N5.out (E5.out.reads.mono (by omega) (Nat.le_refl _)) (V5.out.reads.mono (by omega) (Nat.le_refl _)) (by rw [hnh.out]; exact hlh.out) (by rw [hnh.out]; exact hlh.out)
  have e2 : (u == 2) = false := by simpa using h2
  clear h2
  go_wp2
  refine bodyPost_ret (EvS.results_tmp2 rfl _ _) rfl ?_
  exact fin _ _ _ lE _ N5.out (E5.out.reads.mono (by omega) (Nat.le_refl _)) (V5.out.reads.mono (by omega) (Nat.le_refl _)) (by rw [hnh.out]; exact hlh.out) (by rw [hnh.out]; exact hlh.out)
theorem drawFirst (w : World) (a : Option Addr) (len cap : Nat) (h : Src w a len cap) : Calls Try.prog 16 #[.slice a len cap] w (GotLL w) := by
  have hh := Lib.hid h
  clear h
  go_enter Try.func16, Try.ntmps16
  go_wp2_with fail
  refine (drawSame w _ _ _ hh.out).mono ?_
  rintro e w1 ⟨va, vb, la, lb, rfl, N, ha, hb, h1, h2⟩
  obtain ⟨a1, d1, rfl, _⟩ := ha.len
  obtain ⟨a2, d2, rfl, _⟩ := hb.len
  have hah := Lib.hid ha
  have hbh := Lib.hid hb
  clear ha hb
  go_wp2
  refine bodyPost_ret (EvS.results_tmp2 rfl _ _) rfl ?_
  exact ⟨_, _, la, lb, rfl, N, hah.out, hbh.out, h1, h2⟩
end Go.Proofs.Ytckikiaockkmbaa.DrawO
