/- Draws of traces: DrawProjectTrace, DrawTraceSame, DrawFirstDifference. No conditions. -/
import Derived.Test.YtckikiaockkmbaaQDrawJ
import Derived.Test.YtckikiaockkmbaaQP5
import Derived.Test.YtckikiaockkmbaaQP1
namespace Go.Proofs.Ytckikiaockkmbaa.DrawO
open Go.RowKit Kit Draw DrawX
set_option linter.unusedVariables false
theorem own_cellsE {w : World} {base n d : Nat} {a : Option Addr} {T : TypeId} {xs : List Ev} (h : OwnF 2 encE w base T (.slice a n d) xs) (h0 : 0 < xs.length) :
    n = xs.length ∧ ∃ b, a = some ⟨b, 0, none⟩ ∧ (∀ i (h : i < xs.length), w.cell? ⟨b, i * 2, none⟩ = some (.int .i64 xs[i].1) ∧ w.cell? ⟨b, i * 2 + 1, none⟩ = some (.int .i64 xs[i].2)) ∧ ∀ i, w.frozen? ⟨b, i, none⟩ = false := by
  rcases h.form with ⟨e, _⟩ | ⟨b, cap, cs, e, hb, _, _, hh, hn, hc⟩
  · subst e; exact absurd h0 (Nat.lt_irrefl _)
  · cases e
    exact ⟨rfl, b, rfl, fun i hi => ⟨(cell_of_heap hh _).trans (hc i hi 0 (by omega)), (cell_of_heap hh _).trans (hc i hi 1 (by omega))⟩, fun i => frozen_of_heap hh i⟩
/-- one cell of one event is changed -/
theorem own_setE {w : World} {base b cap : Nat} {T : TypeId} {xs : List Ev} (h : OwnF 2 encE w base T (.slice (some ⟨b, 0, none⟩) xs.length cap) xs) (j : Nat) (hj : j < xs.length) (t : Nat) (ht : t < 2) (y : Ev) (u : Value) (hu : ∀ q, q < 2 → encE y q = if q = t then u else encE xs[j] q) :
    OwnF 2 encE (w.setCell ⟨b, j * 2 + t, none⟩ u) base T (.slice (some ⟨b, 0, none⟩) xs.length cap) (xs.set j y) := by
  rcases h.form with ⟨e, _⟩ | ⟨b', cap', cs, e, hb1, hb2, hb3, hh, hs, hc⟩
  · subst e; exact absurd hj (Nat.not_lt_zero _)
  · cases e
    have := OwnF.mk' (enc := encE) (n := 2) (xs := xs.set j y) (base := base) (setCell_heap (o := j * 2 + t) hh u) hb1 (by simpa using hb2) hb3 (by simpa using hs) (fun i hi q hq => by
      have hi2 : i < xs.length := by simpa using hi
      rw [Array.getElem?_setIfInBounds]
      by_cases e : j = i
      · subst e
        rw [List.getElem_set_self, hu q hq]
        by_cases e2 : q = t
        · subst e2
          have hlt : j * 2 + q < cs.size := by omega
          simp [hlt]
        · rw [if_neg (by omega), if_neg e2]; exact hc j hj q hq
      · rw [List.getElem_set_ne e, if_neg (by omega)]; exact hc i hi2 q hq)
    rw [List.length_set] at this
    exact this
theorem own_set0 {w : World} {base b cap : Nat} {T : TypeId} {xs : List Ev} (h : OwnF 2 encE w base T (.slice (some ⟨b, 0, none⟩) xs.length cap) xs) (j : Nat) (hj : j < xs.length) (z : Int) : OwnF 2 encE (w.setCell ⟨b, j * 2, none⟩ (.int .i64 z)) base T (.slice (some ⟨b, 0, none⟩) xs.length cap) (xs.set j (z, xs[j].2)) :=
  own_setE h j hj 0 (by omega) _ _ fun q hq => by match q, hq with | 0, _ => rfl | 1, _ => rfl
theorem take_r {α : Type} {n : Nat} {enc : α → Nat → Value} {w : World} {lo hi m cap : Nat} {a : Option Addr} {xs : List α} (h : FlR n enc w lo hi (.slice a m cap) xs) (k : Nat) (hk : k ≤ xs.length) : FlR n enc w lo hi (.slice a k cap) (xs.take k) := by
  cases h with
  | nil a cap => simp at hk; subst hk; exact .nil _ _
  | cons b o cap xs h0 hlo hhi hcap hmax c =>
    by_cases k0 : k = 0
    · subst k0; exact .nil _ _
    · have := FlR.cons (n := n) (enc := enc) (w := w) (lo := lo) (hi := hi) b o cap (xs.take k) (by simp; omega) hlo hhi (by simp; omega) hmax (fun i h t ht => by rw [List.getElem_take]; exact c i _ t ht)
      rwa [List.length_take, Nat.min_eq_left hk] at this
/-- events of the call's own -/
def GotL (w : World) (e : Ending) (w' : World) : Prop := ∃ (ev : Value) (lE : List Ev), e = .returned ev ∧ New w w' ∧ OwnF 2 encE w' w.heap.size 32 ev lE ∧ lE.length ≤ 1000000
/-- on the way of the loop -/
def PL (w : World) (br base : Nat) (aE : Option Addr) (dE n j : Nat) (wr : World) : Prop := ∃ (l : List Ev) (q : Nat), l.length = n ∧ New w wr ∧ Rd wr br q ∧ q ≤ 3200000 + 2 * j ∧ OwnF 2 encE wr base 32 (.slice aE n dE) l
set_option maxHeartbeats 8000000 in
set_option maxRecDepth 100000 in
theorem drawProj (w : World) (a : Option Addr) (len cap : Nat) (h : Src w a len cap) : Calls Try.prog 12 #[.slice a len cap] w (GotL w) := by
  go_enter Try.func12, Try.ntmps12
  go_wp2_with fail
  refine (Draw.l17Open w _ _ _ h.1 h.2.1 h.2.2).mono ?_
  rintro e w1 ⟨rfl, hn1, r1⟩
  clear h
  generalize hbr : w.heap.size = br at *
  have hwbr : w.heap.size ≤ br := Nat.le_of_eq hbr
  have hwbr2 : br ≤ w.heap.size := Nat.le_of_eq hbr.symm
  clear hbr
  have hbl := r1.lt
  go_wp2_with fail
  refine (DrawJ.l3Trace w1 br 0 r1 (by omega)).mono ?_
  rintro e w2 ⟨ev, lE, q, rfl, hn2, r2, hq, hE, hl⟩
  have N2 : New w w2 := New.one hn1 hn2 hwbr
  obtain ⟨aE, dE, rfl, _⟩ := hE.reads.len
  have zb := hn2.size
  have h0 := Lib.hid (show PL w br w1.heap.size aE dE lE.length 0 w2 from ⟨lE, q, rfl, N2, r2, by omega, hE⟩)
  clear hn1 r1 hn2 N2 r2 hq hE
  obtain ⟨n, hn⟩ : ∃ n, lE.length = n := ⟨_, rfl⟩
  rw [hn] at h0 hl ⊢
  have hlh := Lib.hid hl
  have hn63 : n ≤ 9223372036854775807 := by omega
  clear hn hl
  have z1 : br < w1.heap.size := hbl
  generalize w1.heap.size = base at *
  go_wp2_with fail
  go_loopw [5] (fun i wr => ∃ j : Nat, j ≤ n ∧ i = .int .i64 j ∧ PL w br base aE dE n j wr) (fun i _ => n - (intOf i).toNat)
  case atStart => exact ⟨0, Nat.zero_le _, rfl, h0.out⟩
  case round =>
    obtain ⟨j, hj, rfl, l, q, hll, N, r, hq, hE⟩ := hrel
    clear h0 zb
    have hq6 : q ≤ 5200000 := by have := hlh.out; omega
    have hEh := Lib.hid hE
    by_cases hlt : j < n
    · obtain ⟨b, rfl⟩ : ∃ b, aE = some ⟨b, 0, none⟩ := by obtain ⟨_, b, e, _⟩ := own_cellsE hE (by omega); exact ⟨b, e⟩
      have hbb := (hE.lt b (by simp [Value.ownBlock])).1
      clear hE
      go_wp2_with fail
      refine (pick wr br q _ r (by omega)).mono ?_
      rintro e w3 ⟨u, rfl, u0, u1, u2, hn3, r3⟩
      have N3 := New.one N hn3 hwbr
      have E3 := Lib.hid (hEh.out.kp hn3 fun c e1 e2 => by have := (hEh.out.lt c e1).1; omega)
      clear N r hn3 hEh u0 u1 u2
      by_cases hu : u = 0
      · subst hu
        go_wp2_with fail
        refine (pick w3 br (q + 1) _ r3 (by omega)).mono ?_
        rintro e w4 ⟨v, rfl, v0, v1, v2, hn4, r4⟩
        have N4 := Lib.hid (New.one N3 hn4 hwbr)
        have E4 := Lib.hid (E3.out.kp hn4 fun c e1 e2 => by have := (E3.out.lt c e1).1; omega)
        clear N3 r3 hn4 E3 v0 v1 v2
        subst hll
        obtain ⟨_, b', e', hc, hf⟩ := own_cellsE E4.out (by omega)
        cases e'
        have c0 := (hc j hlt).1
        have kk : Kp (fun c => c = b) w4 (w4.setCell ⟨b, j * 2, none⟩ (.int .i64 v)) := (Kp.refl (fun c => c = b) _).setCell (.inl rfl) _
        have hb0 : w.heap.size ≤ b := by omega
        have N5 := Lib.hid (New.one N4.out kk hb0)
        have r5 := Lib.hid (r4.keep kk (fun i e => by omega))
        have E5 := Lib.hid (own_set0 E4.out j hlt v)
        clear kk hc r4 N4 E4
        go_wp2
        go_roundw
        case rel => exact ⟨j + 1, by omega, by go_num, _, _, by simp, N5.out, r5.out, by omega, E5.out⟩
        case measure => simp [intOf]; omega
      · have hub : (u == 0) = false := by simpa using hu
        clear hu
        go_wp2
        go_roundw
        case rel => exact ⟨j + 1, by omega, by go_num, l, _, hll, N3, r3, by omega, E3.out⟩
        case measure => simp [intOf]; omega
    · clear hE
      go_wp2
      refine bodyPost_ret (RuS.results_tmp1 rfl _ _) rfl ?_
      exact ⟨_, l, rfl, N, hEh.out.up fun b hb => by have := (hEh.out.lt b hb).1; omega, by rw [hll]; exact hlh.out⟩
/-- two traces -/
def GotLL (w : World) (e : Ending) (w' : World) : Prop := ∃ (va vb : Value) (la lb : List Ev), e = .returned (.tuple #[va, vb]) ∧ New w w' ∧ EvsR w' w.heap.size w'.heap.size va la ∧ EvsR w' w.heap.size w'.heap.size vb lb ∧ la.length ≤ 1000000 ∧ lb.length ≤ 1000000
end Go.Proofs.Ytckikiaockkmbaa.DrawO
