/- DrawFormatTrace: events of the call's own. No conditions. -/
import Derived.Test.YtckikiaockkmbaaDoorXDrawO
namespace Go.Proofs.YtckikiaockkmbaaDoor.DrawK
open Go.RowKit Kit Draw DrawX DrawO
set_option linter.unusedVariables false
/-- events of the call's own -/
def GotE (w : World) (e : Ending) (w' : World) : Prop := ∃ (ev : Value) (lE : List Ev), e = .returned ev ∧ New w w' ∧ OwnF 2 encE w' w.heap.size 54 ev lE ∧ lE.length ≤ 1000000
set_option maxHeartbeats 8000000 in
set_option maxRecDepth 100000 in
theorem drawFmt (w : World) (a : Option Addr) (len cap : Nat) (h : Src w a len cap) : Calls Tryd.prog 19 #[.slice a len cap] w (GotE w) := by
  go_enter Tryd.func19, Tryd.ntmps19
  go_wp2_with fail
  refine (Draw.l17Open w _ _ _ h.1 h.2.1 h.2.2).mono ?_
  rintro e w1 ⟨rfl, hn1, r1⟩
  clear h
  generalize hbr : w.heap.size = br at *
  have hwbr : w.heap.size ≤ br := Nat.le_of_eq hbr
  have hwbr2 : br ≤ w.heap.size := Nat.le_of_eq hbr.symm
  clear hbr
  have hbl := r1.lt
  go_wp2_with fail
  refine (DrawJ.l3Trace w1 br 0 r1 (by omega)).mono ?_
  rintro e w2 ⟨ev, lE, q, rfl, hn2, r2, hq, hE, hl⟩
  have N2 : New w w2 := New.one hn1 hn2 hwbr
  obtain ⟨aE, dE, rfl, _⟩ := hE.reads.len
  have zb := hn2.size
  have hup := Lib.hid (show OwnF 2 encE w2 w.heap.size 54 (.slice aE lE.length dE) lE from hE.up fun b hb => by have := (hE.lt b hb).1; omega)
  by_cases h0 : lE.length = 0
  · have hp : ¬ (0 : Int) < (lE.length : Int) := by omega
    have hlh := Lib.hid hl
    clear hE hq r2 hn2 hn1 r1 h0 hl
    generalize hn : lE.length = n at *
    have hnh := Lib.hid hn
    clear hn
    go_wp2
    refine bodyPost_ret (RuS.results_tmp1 rfl _ _) rfl ?_
    exact ⟨_, lE, rfl, N2, hup.out, by rw [hnh.out]; exact hlh.out⟩
  · have hp : (0 : Int) < (lE.length : Int) := by omega
    have hEh := Lib.hid hE
    have hlh := Lib.hid hl
    have hph := Lib.hid (show 0 < lE.length by omega)
    have z1 : br < w1.heap.size := hbl
    clear hE hn2 hn1 r1 h0 hl
    go_wp2_with fail
    refine (pick w2 br q _ r2 (by omega)).mono ?_
    rintro e w3 ⟨u, rfl, u0, u1, u2, hn3, r3⟩
    have N3 := Lib.hid (New.one N2 hn3 hwbr)
    have E3 := Lib.hid (hup.out.kp hn3 fun c e1 e2 => by have := (hEh.out.lt c e1).1; omega)
    have hlow := Lib.hid (fun c e => (hEh.out.lt c e).1)
    clear N2 r2 hn3 hEh u0 u1 u2 hup
    by_cases hu : u = 0
    · subst hu
      go_wp2_with fail
      refine (pick w3 br (q + 1) _ r3 (by omega)).mono ?_
      rintro e w4 ⟨v, rfl, v0, v1, v2, hn4, r4⟩
      have N4 := Lib.hid (New.one N3.out hn4 hwbr)
      have E4 := Lib.hid (E3.out.kp hn4 fun c e1 e2 => by have := hlow.out c e1; omega)
      have y4 : br < w4.heap.size := r4.lt
      clear N3 r3 hn4 E3 v0 v1 v2
      go_wp2_with fail
      refine (num _ br (q + 1 + 1) _ 3 _ (fun _ => True) (r4.keep (S := fun _ => False) ((Kp.refl _ _).alloc _) (fun _ f => f.elim)) (by omega) (by omega) (by omega) (by omega) ?_).mono ?_
      · intro i hi
        match i, hi with
        | 0, _ => exact ⟨_, trivial, World.cell?_alloc_new _ _ _ _⟩
        | 1, _ => exact ⟨_, trivial, World.cell?_alloc_new _ _ _ _⟩
        | 2, _ => exact ⟨_, trivial, World.cell?_alloc_new _ _ _ _⟩
      · rintro e w5 ⟨x, rfl, -, k5, r5⟩
        have kk : One br w4 w5 := ((Kp.refl (fun k => k = br) w4).alloc _).trans k5
        have N5 := Lib.hid (New.one N4.out kk hwbr)
        have E5 := Lib.hid (E4.out.kp kk fun c e1 e2 => by have := hlow.out c e1; omega)
        clear N4 r4 E4 kk k5 r5
        obtain ⟨_, b, e', hc, hf⟩ := own_cellsE E5.out hph.out
        cases e'
        have hb0 := (E5.out.lt b (by simp [Value.ownBlock])).1
        have c0 : w5.cell? ⟨b, 0, none⟩ = some (.int .i64 lE[0].1) := by have := (hc 0 hph.out).1; simpa using this
        have c1 : w5.cell? ⟨b, 1, none⟩ = some (.int .i64 lE[0].2) := by have := (hc 0 hph.out).2; simpa using this
        have f0 := hf 0
        have f1 := hf 1
        have E6 : OwnF 2 encE (w5.setCell ⟨b, 0, none⟩ (.int .i64 v)) w.heap.size 54 (.slice (some ⟨b, 0, none⟩) lE.length dE) (lE.set 0 (v, lE[0].2)) := by have := own_set0 E5.out 0 hph.out v; simpa using this
        have E7 : ∃ l : List Ev, l.length = lE.length ∧ OwnF 2 encE ((w5.setCell ⟨b, 0, none⟩ (.int .i64 v)).setCell ⟨b, 1, none⟩ (.int .i64 x)) w.heap.size 54 (.slice (some ⟨b, 0, none⟩) lE.length dE) l := by
          obtain ⟨l, hl⟩ : ∃ l : List Ev, lE.set 0 (v, lE[0].2) = l := ⟨_, rfl⟩
          have hll : l.length = lE.length := by rw [← hl]; simp
          rw [hl, ← hll] at E6
          have h0 : 0 < l.length := by have := hph.out; omega
          have := own_set1 E6 0 h0 x
          refine ⟨_, ?_, by rw [← hll]; simpa using this⟩
          simpa using hll
        obtain ⟨l, hll, E7⟩ := E7
        have E7h := Lib.hid E7
        have hllh := Lib.hid hll
        have N7 := Lib.hid (show New w ((w5.setCell ⟨b, 0, none⟩ (.int .i64 v)).setCell ⟨b, 1, none⟩ (.int .i64 x)) from (N5.out.setCell (.inr hb0) _).setCell (.inr hb0) _)
        clear E6 E7 hll hc hf N5 E5 hb0
        generalize lE[0].1 = e1 at *
        generalize lE[0].2 = e2 at *
        generalize hn : lE.length = n at *
        have hnh := Lib.hid hn
        clear hn
        go_wp2
        refine bodyPost_ret (RuS.results_tmp1 rfl _ _) rfl ?_
        exact ⟨_, l, rfl, N7.out, E7h.out, by rw [hllh.out]; exact hlh.out⟩
    · have hub : (u == 0) = false := by simpa using hu
      clear hu
      go_wp2
      refine bodyPost_ret (RuS.results_tmp1 rfl _ _) rfl ?_
      exact ⟨_, lE, rfl, N3.out, E3.out, hlh.out⟩
end Go.Proofs.YtckikiaockkmbaaDoor.DrawK
