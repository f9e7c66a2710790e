/- Draws of instructions. Condition: fewer than 2^40 picks so far. -/
import Derived.Test.YtljokgoghphgdaaVDrawM
import Derived.Test.YtljokgoghphgdaaVP5
namespace Go.Proofs.Ytljokgoghphgdaa.DrawC
open Go.RowKit Kit Draw DrawX MarkC
set_option linter.unusedVariables false
/-- an instruction drawn by at most c picks -/
def GotI (w : World) (br p c : Nat) (e : Ending) (w' : World) : Prop := ∃ (y : Ins) (q : Nat), e = .returned (.agg #[.int .i64 y.op, .int .i64 y.a, .int .i64 y.b, .int .i64 y.c, .int .i64 y.d]) ∧ One br w w' ∧ Rd w' br q ∧ q ≤ p + c
theorem letters4 {op : Int} (h1 : 1 ≤ op) (h2 : op ≤ 13) : (Val.lettersS op).length ≤ 4 := by
  obtain rfl | rfl | rfl | rfl | rfl | rfl | rfl | rfl | rfl | rfl | rfl | rfl | rfl : op = 1 ∨ op = 2 ∨ op = 3 ∨ op = 4 ∨ op = 5 ∨ op = 6 ∨ op = 7 ∨ op = 8 ∨ op = 9 ∨ op = 10 ∨ op = 11 ∨ op = 12 ∨ op = 13 := by omega
  all_goals decide
theorem four (w : World) (T : TypeId) : OwnF 1 encI (w.alloc (.cells #[.int .i64 0, .int .i64 0, .int .i64 0, .int .i64 0] T)) w.heap.size T (.slice (some ⟨w.heap.size, 0, none⟩) 4 4) [0, 0, 0, 0] :=
  OwnF.mk' (enc := encI) (n := 1) (xs := [0, 0, 0, 0]) (alloc_heap _ _) (Nat.le_refl _) (by simp) (by decide) (by simp) fun i hi t ht => by
    obtain rfl : t = 0 := by omega
    match i, hi with
    | 0, _ => rfl
    | 1, _ => rfl
    | 2, _ => rfl
    | 3, _ => rfl
def LR (w : World) (br p bo bf : Nat) (vp : Array Value) (x : Int) (m : Nat) (wr : World) : Prop := ∃ (ps : List Int) (q : Nat), ps.length = 4 ∧ One br w wr ∧ Rd wr br q ∧ q ≤ p + 1 + m ∧ wr.heap[w.heap.size]? = some (.cells vp 26 (0, 0)) ∧ wr.heap[w.heap.size + 1]? = some (.cells #[.int .i64 0, .int .i64 0, .int .i64 0, .int .i64 0, .int .i64 0] 44 (0, 0)) ∧ wr.heap[bo]? = some (.cells #[.int .i64 x, .int .i64 0, .int .i64 0, .int .i64 0, .int .i64 0] 44 (0, 0)) ∧
  OwnF 1 encI wr bf 3 (.slice (some ⟨bf, 0, none⟩) 4 4) ps
set_option maxHeartbeats 16000000 in
set_option maxRecDepth 100000 in
theorem l6Random (w : World) (br p at_ n : Nat) (a1 a2 a3 : Option Addr) (nv d1 na d2 nb d3 : Nat) (h : Rd w br p) (hp : p + 20 < 1099511627776) (hat : at_ ≤ 1000) (hn : n ≤ 1000) (hnv : nv ≤ 1000000) (hna : na ≤ 1000000) :
    Calls Try.prog 113 #[.pointer (some ⟨br, 0, none⟩), .agg #[.slice a1 nv d1, .slice a2 na d2, .slice a3 nb d3], .int .i64 at_, .int .i64 n] w (GotI w br p 5) := by
  have hbl := h.lt
  go_enter Try.func113, Try.ntmps113
  go_upto_region 1 with fail
  have N0 : New w ((w.alloc (.cells #[.slice a1 nv d1, .slice a2 na d2, .slice a3 nb d3] 26)).alloc (.cells #[.int .i64 0, .int .i64 0, .int .i64 0, .int .i64 0, .int .i64 0] 44)) := ((Kp.refl _ _).alloc _).alloc _
  have bP_0 : ((w.alloc (.cells #[.slice a1 nv d1, .slice a2 na d2, .slice a3 nb d3] 26)).alloc (.cells #[.int .i64 0, .int .i64 0, .int .i64 0, .int .i64 0, .int .i64 0] 44)).heap[w.heap.size]? = some (.cells #[.slice a1 nv d1, .slice a2 na d2, .slice a3 nb d3] 26) := heap_old (alloc_heap _ _)
  have bR_0 : ((w.alloc (.cells #[.slice a1 nv d1, .slice a2 na d2, .slice a3 nb d3] 26)).alloc (.cells #[.int .i64 0, .int .i64 0, .int .i64 0, .int .i64 0, .int .i64 0] 44)).heap[w.heap.size + 1]? = some (.cells #[.int .i64 0, .int .i64 0, .int .i64 0, .int .i64 0, .int .i64 0] 44) := heap_at (by simp)
  have z0 : w.heap.size + 1 < ((w.alloc (.cells #[.slice a1 nv d1, .slice a2 na d2, .slice a3 nb d3] 26)).alloc (.cells #[.int .i64 0, .int .i64 0, .int .i64 0, .int .i64 0, .int .i64 0] 44)).heap.size := by simp
  generalize ((w.alloc (.cells #[.slice a1 nv d1, .slice a2 na d2, .slice a3 nb d3] 26)).alloc (.cells #[.int .i64 0, .int .i64 0, .int .i64 0, .int .i64 0, .int .i64 0] 44)) = w0 at *
  have r0 := h.keep N0 (fun _ f => f.elim)
  have K0 : One br w w0 := N0.mono (fun _ _ f => f.elim)
  clear N0 h
  go_wp2_with fail
  have hNr := r0.lt
  refine (num _ br (p) _ 12 _ (fun x => 1 ≤ x ∧ x ≤ 12) (r0.keep (S := fun _ => False) ((Kp.refl _ _).alloc _) (fun _ f => f.elim)) (by omega) (by omega) (by omega) (by omega) ?_).mono ?_
  · intro i hi
    match i, hi with
    | 0, _ => exact ⟨_, by decide, World.cell?_alloc_new _ _ _ _⟩
    | 1, _ => exact ⟨_, by decide, World.cell?_alloc_new _ _ _ _⟩
    | 2, _ => exact ⟨_, by decide, World.cell?_alloc_new _ _ _ _⟩
    | 3, _ => exact ⟨_, by decide, World.cell?_alloc_new _ _ _ _⟩
    | 4, _ => exact ⟨_, by decide, World.cell?_alloc_new _ _ _ _⟩
    | 5, _ => exact ⟨_, by decide, World.cell?_alloc_new _ _ _ _⟩
    | 6, _ => exact ⟨_, by decide, World.cell?_alloc_new _ _ _ _⟩
    | 7, _ => exact ⟨_, by decide, World.cell?_alloc_new _ _ _ _⟩
    | 8, _ => exact ⟨_, by decide, World.cell?_alloc_new _ _ _ _⟩
    | 9, _ => exact ⟨_, by decide, World.cell?_alloc_new _ _ _ _⟩
    | 10, _ => exact ⟨_, by decide, World.cell?_alloc_new _ _ _ _⟩
    | 11, _ => exact ⟨_, by decide, World.cell?_alloc_new _ _ _ _⟩
  rintro e w1 ⟨x, rfl, ⟨x1, x2⟩, k1, r1⟩
  have hn1 : One br w0 w1 := ((Kp.refl (fun k => k = br) w0).alloc _).trans k1
  clear k1 hNr
  have z1 : w0.heap.size ≤ w1.heap.size := hn1.size
  have bP_1 := (hn1.block _ (heap_lt bP_0) (by omega)).trans bP_0
  have bR_1 := (hn1.block _ (heap_lt bR_0) (by omega)).trans bR_0
  have K1 : One br w w1 := K0.trans hn1
  clear bP_0 bR_0 K0 r0 hn1
  have hn2 : New w1 (w1.alloc (.cells #[.int .i64 x, .int .i64 0, .int .i64 0, .int .i64 0, .int .i64 0] 44)) := (Kp.refl _ _).alloc _
  have y2 : w1.heap.size < (w1.alloc (.cells #[.int .i64 x, .int .i64 0, .int .i64 0, .int .i64 0, .int .i64 0] 44)).heap.size := lt_alloc _ _
  have bE_2 := alloc_heap w1 (.cells #[.int .i64 x, .int .i64 0, .int .i64 0, .int .i64 0, .int .i64 0] 44)
  go_upto_region 2 with fail
  generalize hbo : w1.heap.size = bo at bE_2 y2 ⊢
  have hbo2 : w.heap.size + 1 < bo := by omega
  have hbr : br < bo := by have := r1.lt; omega
  generalize w1.alloc (.cells #[.int .i64 x, .int .i64 0, .int .i64 0, .int .i64 0, .int .i64 0] 44) = w2 at *
  have z2 : w1.heap.size ≤ w2.heap.size := hn2.size
  have bP_2 := (hn2.block _ (heap_lt bP_1) (fun f => f)).trans bP_1
  have bR_2 := (hn2.block _ (heap_lt bR_1) (fun f => f)).trans bR_1
  have K2 : One br w w2 := K1.trans (hn2.mono fun _ _ f => f.elim)
  have r2 := r1.keep hn2 (fun _ f => f.elim)
  clear bP_1 bR_1 K1 r1 hn2
  by_cases hz0 : ¬ na = 0
  · have hz1 : ((na : Int) == 0) = false := by simpa using hz0
    have cP0 := cell_of_heap bP_2 0
    have cP1 := cell_of_heap bP_2 1
    have cP2 := cell_of_heap bP_2 2
    have lP := heap_lt bP_2
    have cE0 := cell_of_heap bE_2 0
    have cE1 := cell_of_heap bE_2 1
    have cE2 := cell_of_heap bE_2 2
    have cE3 := cell_of_heap bE_2 3
    have cE4 := cell_of_heap bE_2 4
    have fE := frozen_of_heap bE_2
    have lE := heap_lt bE_2
    go_wp2_with fail
    clear cP0 cP1 cP2 lP cE0 cE1 cE2 cE3 cE4 fE lE
    refine (CodeV.l6Fields (w := w2) (op := x) (by omega) (by omega)).mono ?_
    rintro e w3 ⟨ks, rfl, hks, hn3⟩
    have z3 : w2.heap.size ≤ w3.heap.size := hn3.size
    have bP_3 := (hn3.block _ (heap_lt bP_2) (fun f => f)).trans bP_2
    have bR_3 := (hn3.block _ (heap_lt bR_2) (fun f => f)).trans bR_2
    have bE_3 := (hn3.block _ (heap_lt bE_2) (fun f => f)).trans bE_2
    have K3 : One br w w3 := K2.trans (hn3.mono fun _ _ f => f.elim)
    have r3 := r2.keep hn3 (fun _ f => f.elim)
    clear bP_2 bR_2 bE_2 K2 r2 hn3
    obtain ⟨kn, hkn⟩ : ∃ kn, ks.size = kn := ⟨_, rfl⟩
    have kl : kn ≤ 4 := by rw [← hkn]; rw [CodeV.ba_len hks]; exact letters4 (op := x) (by omega) (by omega)
    clear hks
    have hn4 : New w3 (w3.alloc (.cells #[.int .i64 0, .int .i64 0, .int .i64 0, .int .i64 0] 3)) := (Kp.refl _ _).alloc _
    have y4 : w3.heap.size < (w3.alloc (.cells #[.int .i64 0, .int .i64 0, .int .i64 0, .int .i64 0] 3)).heap.size := lt_alloc _ _
    have oF_4 := four w3 3
    go_wp2_with fail
    generalize hbf : w3.heap.size = bf at oF_4 y4 ⊢
    have hbf2 : bo < bf := by have := heap_lt bE_3; omega
    generalize (w3.alloc (.cells #[.int .i64 0, .int .i64 0, .int .i64 0, .int .i64 0] 3)) = w4 at *
    have z4 : w3.heap.size ≤ w4.heap.size := hn4.size
    have bP_4 := (hn4.block _ (heap_lt bP_3) (fun f => f)).trans bP_3
    have bR_4 := (hn4.block _ (heap_lt bR_3) (fun f => f)).trans bR_3
    have bE_4 := (hn4.block _ (heap_lt bE_3) (fun f => f)).trans bE_3
    have K4 : One br w w4 := K3.trans (hn4.mono fun _ _ f => f.elim)
    have r4 := r3.keep hn4 (fun _ f => f.elim)
    clear bP_3 bR_3 bE_3 K3 r3 hn4
    have hL : LR w br p bo bf #[.slice a1 nv d1, .slice a2 na d2, .slice a3 nb d3] (x) 0 w4 := ⟨[0, 0, 0, 0], p + 1, rfl, K4, r4, by omega, bP_4, bR_4, bE_4, oF_4⟩
    have hLh := Lib.hid hL
    clear hL K4 r4 bP_4 bR_4 bE_4 oF_4
    go_loopw [12] (fun i wr => ∃ j : Nat, j ≤ kn ∧ i = .int .i64 j ∧ LR w br p bo bf #[.slice a1 nv d1, .slice a2 na d2, .slice a3 nb d3] (x) j wr) (fun i _ => kn - (intOf i).toNat)
    case atStart => exact ⟨0, Nat.zero_le _, rfl, hLh.out⟩
    case round =>
      obtain ⟨j, hj, rfl, ps, q, hl, K0, r0, hq, bP_0, bR_0, bE_0, hF⟩ := hrel
      clear hLh
      have oF_0 := Lib.hid hF
      have hlF := Lib.hid hl
      have zw := K0.size
      have zE := heap_lt bE_0
      have hbr2 := r0.lt
      clear hl hF
      by_cases hlt : j < kn
      · have hk : j < ks.size := by omega
        go_upto_region 11 with fail
        generalize ((ks[j].toNat : Nat) : Int) = y at *
        by_cases hy114 : y = 114
        · subst hy114
          have cP0 := cell_of_heap bP_0 0
          have cP1 := cell_of_heap bP_0 1
          have cP2 := cell_of_heap bP_0 2
          have lP := heap_lt bP_0
          go_wp2_with fail
          refine (pick wr br (q) _ r0 (by omega)).mono ?_
          rintro e w1 ⟨v, rfl, v0, v1, v2, hn1, r1⟩
          have z1 : wr.heap.size ≤ w1.heap.size := hn1.size
          have bP_1 := (hn1.block _ (heap_lt bP_0) (by omega)).trans bP_0
          have bR_1 := (hn1.block _ (heap_lt bR_0) (by omega)).trans bR_0
          have bE_1 := (hn1.block _ (heap_lt bE_0) (by omega)).trans bE_0
          have oF_1 := Lib.hid (oF_0.out.kb hn1 (fun b e => by omega))
          have K1 : One br w w1 := K0.trans hn1
          clear cP0 cP1 cP2 lP
          clear bP_0 bR_0 bE_0 oF_0 K0 r0 hn1
          clear v1 v2
          obtain ⟨-, g, ge, gc, gf⟩ := own_cells oF_1.out (by rw [hlF.out]; decide)
          cases ge
          obtain ⟨u, gcj⟩ : ∃ u : Int, w1.cell? ⟨bf, j, none⟩ = some (.int .i64 u) := ⟨_, gc j (by have := hlF.out; omega)⟩
          have gfj := gf j
          have gsh := Lib.hid (OwnF.set1 (enc := encI) (xs := ps) (show OwnF 1 encI w1 bf 3 (.slice (some ⟨bf, 0, none⟩) ps.length 4) ps by rw [hlF.out]; exact oF_1.out) j (by have := hlF.out; omega) (v))
          have gl : (ps.set j (v)).length = 4 := by rw [List.length_set]; exact hlF.out
          clear gc gf
          have kz : Kp (fun b => b = bf) w1 (w1.setCell ⟨bf, j, none⟩ (.int .i64 (v))) := (Kp.refl (fun b => b = bf) _).setCell (.inl rfl) _
          have hlF2 := hlF.out
          have hL : LR w br p bo bf #[.slice a1 nv d1, .slice a2 na d2, .slice a3 nb d3] (x) (j + 1) (w1.setCell ⟨bf, j, none⟩ (.int .i64 (v))) := ⟨ps.set j (v), q + 1, gl, one_on K1 kz (by omega), r1.keep kz (fun b e => by omega), by omega, (kz.block _ (heap_lt bP_1) (by omega)).trans bP_1, (kz.block _ (heap_lt bR_1) (by omega)).trans bR_1, (kz.block _ (heap_lt bE_1) (by omega)).trans bE_1, by have := gsh.out; rw [hlF2] at this; exact this⟩
          have hLh := Lib.hid hL
          clear hL kz K1 r1 bP_1 bR_1 bE_1 oF_1 gl gsh hlF hlF2
          go_wp2
          go_roundw
          case rel => exact ⟨j + 1, by omega, by go_num, hLh.out⟩
          case measure => simp [intOf]; omega
        have hz114 : (y == 114) = false := by simpa using hy114
        by_cases hy99 : y = 99
        · subst hy99
          have cP0 := cell_of_heap bP_0 0
          have cP1 := cell_of_heap bP_0 1
          have cP2 := cell_of_heap bP_0 2
          have lP := heap_lt bP_0
          go_wp2_with fail
          refine (DrawV.l3Value wr br (q) r0 (by omega)).mono ?_
          rintro e w1 ⟨v, rfl, ⟨v0, v1⟩, hn1, r1⟩
          have z1 : wr.heap.size ≤ w1.heap.size := hn1.size
          have bP_1 := (hn1.block _ (heap_lt bP_0) (by omega)).trans bP_0
          have bR_1 := (hn1.block _ (heap_lt bR_0) (by omega)).trans bR_0
          have bE_1 := (hn1.block _ (heap_lt bE_0) (by omega)).trans bE_0
          have oF_1 := Lib.hid (oF_0.out.kb hn1 (fun b e => by omega))
          have K1 : One br w w1 := K0.trans hn1
          clear cP0 cP1 cP2 lP
          clear bP_0 bR_0 bE_0 oF_0 K0 r0 hn1
          obtain ⟨-, g, ge, gc, gf⟩ := own_cells oF_1.out (by rw [hlF.out]; decide)
          cases ge
          obtain ⟨u, gcj⟩ : ∃ u : Int, w1.cell? ⟨bf, j, none⟩ = some (.int .i64 u) := ⟨_, gc j (by have := hlF.out; omega)⟩
          have gfj := gf j
          have gsh := Lib.hid (OwnF.set1 (enc := encI) (xs := ps) (show OwnF 1 encI w1 bf 3 (.slice (some ⟨bf, 0, none⟩) ps.length 4) ps by rw [hlF.out]; exact oF_1.out) j (by have := hlF.out; omega) (v))
          have gl : (ps.set j (v)).length = 4 := by rw [List.length_set]; exact hlF.out
          clear gc gf
          have kz : Kp (fun b => b = bf) w1 (w1.setCell ⟨bf, j, none⟩ (.int .i64 (v))) := (Kp.refl (fun b => b = bf) _).setCell (.inl rfl) _
          have hlF2 := hlF.out
          have hL : LR w br p bo bf #[.slice a1 nv d1, .slice a2 na d2, .slice a3 nb d3] (x) (j + 1) (w1.setCell ⟨bf, j, none⟩ (.int .i64 (v))) := ⟨ps.set j (v), q + 1, gl, one_on K1 kz (by omega), r1.keep kz (fun b e => by omega), by omega, (kz.block _ (heap_lt bP_1) (by omega)).trans bP_1, (kz.block _ (heap_lt bR_1) (by omega)).trans bR_1, (kz.block _ (heap_lt bE_1) (by omega)).trans bE_1, by have := gsh.out; rw [hlF2] at this; exact this⟩
          have hLh := Lib.hid hL
          clear hL kz K1 r1 bP_1 bR_1 bE_1 oF_1 gl gsh hlF hlF2
          go_wp2
          go_roundw
          case rel => exact ⟨j + 1, by omega, by go_num, hLh.out⟩
          case measure => simp [intOf]; omega
        have hz99 : (y == 99) = false := by simpa using hy99
        by_cases hy118 : y = 118
        · subst hy118
          have cP0 := cell_of_heap bP_0 0
          have cP1 := cell_of_heap bP_0 1
          have cP2 := cell_of_heap bP_0 2
          have lP := heap_lt bP_0
          go_wp2_with fail
          refine (pick wr br (q) _ r0 (by omega)).mono ?_
          rintro e w1 ⟨v, rfl, v0, v1, v2, hn1, r1⟩
          have z1 : wr.heap.size ≤ w1.heap.size := hn1.size
          have bP_1 := (hn1.block _ (heap_lt bP_0) (by omega)).trans bP_0
          have bR_1 := (hn1.block _ (heap_lt bR_0) (by omega)).trans bR_0
          have bE_1 := (hn1.block _ (heap_lt bE_0) (by omega)).trans bE_0
          have oF_1 := Lib.hid (oF_0.out.kb hn1 (fun b e => by omega))
          have K1 : One br w w1 := K0.trans hn1
          clear cP0 cP1 cP2 lP
          clear bP_0 bR_0 bE_0 oF_0 K0 r0 hn1
          clear v1 v2
          obtain ⟨-, g, ge, gc, gf⟩ := own_cells oF_1.out (by rw [hlF.out]; decide)
          cases ge
          obtain ⟨u, gcj⟩ : ∃ u : Int, w1.cell? ⟨bf, j, none⟩ = some (.int .i64 u) := ⟨_, gc j (by have := hlF.out; omega)⟩
          have gfj := gf j
          have gsh := Lib.hid (OwnF.set1 (enc := encI) (xs := ps) (show OwnF 1 encI w1 bf 3 (.slice (some ⟨bf, 0, none⟩) ps.length 4) ps by rw [hlF.out]; exact oF_1.out) j (by have := hlF.out; omega) (v))
          have gl : (ps.set j (v)).length = 4 := by rw [List.length_set]; exact hlF.out
          clear gc gf
          have kz : Kp (fun b => b = bf) w1 (w1.setCell ⟨bf, j, none⟩ (.int .i64 (v))) := (Kp.refl (fun b => b = bf) _).setCell (.inl rfl) _
          have hlF2 := hlF.out
          have hL : LR w br p bo bf #[.slice a1 nv d1, .slice a2 na d2, .slice a3 nb d3] (x) (j + 1) (w1.setCell ⟨bf, j, none⟩ (.int .i64 (v))) := ⟨ps.set j (v), q + 1, gl, one_on K1 kz (by omega), r1.keep kz (fun b e => by omega), by omega, (kz.block _ (heap_lt bP_1) (by omega)).trans bP_1, (kz.block _ (heap_lt bR_1) (by omega)).trans bR_1, (kz.block _ (heap_lt bE_1) (by omega)).trans bE_1, by have := gsh.out; rw [hlF2] at this; exact this⟩
          have hLh := Lib.hid hL
          clear hL kz K1 r1 bP_1 bR_1 bE_1 oF_1 gl gsh hlF hlF2
          go_wp2
          go_roundw
          case rel => exact ⟨j + 1, by omega, by go_num, hLh.out⟩
          case measure => simp [intOf]; omega
        have hz118 : (y == 118) = false := by simpa using hy118
        by_cases hy97 : y = 97
        · subst hy97
          have cP0 := cell_of_heap bP_0 0
          have cP1 := cell_of_heap bP_0 1
          have cP2 := cell_of_heap bP_0 2
          have lP := heap_lt bP_0
          go_wp2_with fail
          refine (pick wr br (q) _ r0 (by omega)).mono ?_
          rintro e w1 ⟨v, rfl, v0, v1, v2, hn1, r1⟩
          have z1 : wr.heap.size ≤ w1.heap.size := hn1.size
          have bP_1 := (hn1.block _ (heap_lt bP_0) (by omega)).trans bP_0
          have bR_1 := (hn1.block _ (heap_lt bR_0) (by omega)).trans bR_0
          have bE_1 := (hn1.block _ (heap_lt bE_0) (by omega)).trans bE_0
          have oF_1 := Lib.hid (oF_0.out.kb hn1 (fun b e => by omega))
          have K1 : One br w w1 := K0.trans hn1
          clear cP0 cP1 cP2 lP
          clear bP_0 bR_0 bE_0 oF_0 K0 r0 hn1
          clear v1 v2
          obtain ⟨-, g, ge, gc, gf⟩ := own_cells oF_1.out (by rw [hlF.out]; decide)
          cases ge
          obtain ⟨u, gcj⟩ : ∃ u : Int, w1.cell? ⟨bf, j, none⟩ = some (.int .i64 u) := ⟨_, gc j (by have := hlF.out; omega)⟩
          have gfj := gf j
          have gsh := Lib.hid (OwnF.set1 (enc := encI) (xs := ps) (show OwnF 1 encI w1 bf 3 (.slice (some ⟨bf, 0, none⟩) ps.length 4) ps by rw [hlF.out]; exact oF_1.out) j (by have := hlF.out; omega) (v))
          have gl : (ps.set j (v)).length = 4 := by rw [List.length_set]; exact hlF.out
          clear gc gf
          have kz : Kp (fun b => b = bf) w1 (w1.setCell ⟨bf, j, none⟩ (.int .i64 (v))) := (Kp.refl (fun b => b = bf) _).setCell (.inl rfl) _
          have hlF2 := hlF.out
          have hL : LR w br p bo bf #[.slice a1 nv d1, .slice a2 na d2, .slice a3 nb d3] (x) (j + 1) (w1.setCell ⟨bf, j, none⟩ (.int .i64 (v))) := ⟨ps.set j (v), q + 1, gl, one_on K1 kz (by omega), r1.keep kz (fun b e => by omega), by omega, (kz.block _ (heap_lt bP_1) (by omega)).trans bP_1, (kz.block _ (heap_lt bR_1) (by omega)).trans bR_1, (kz.block _ (heap_lt bE_1) (by omega)).trans bE_1, by have := gsh.out; rw [hlF2] at this; exact this⟩
          have hLh := Lib.hid hL
          clear hL kz K1 r1 bP_1 bR_1 bE_1 oF_1 gl gsh hlF hlF2
          go_wp2
          go_roundw
          case rel => exact ⟨j + 1, by omega, by go_num, hLh.out⟩
          case measure => simp [intOf]; omega
        have hz97 : (y == 97) = false := by simpa using hy97
        by_cases hy111 : y = 111
        · subst hy111
          have cP0 := cell_of_heap bP_0 0
          have cP1 := cell_of_heap bP_0 1
          have cP2 := cell_of_heap bP_0 2
          have lP := heap_lt bP_0
          go_wp2_with fail
          refine (pick wr br (q) _ r0 (by omega)).mono ?_
          rintro e w1 ⟨v, rfl, v0, v1, v2, hn1, r1⟩
          have z1 : wr.heap.size ≤ w1.heap.size := hn1.size
          have bP_1 := (hn1.block _ (heap_lt bP_0) (by omega)).trans bP_0
          have bR_1 := (hn1.block _ (heap_lt bR_0) (by omega)).trans bR_0
          have bE_1 := (hn1.block _ (heap_lt bE_0) (by omega)).trans bE_0
          have oF_1 := Lib.hid (oF_0.out.kb hn1 (fun b e => by omega))
          have K1 : One br w w1 := K0.trans hn1
          clear cP0 cP1 cP2 lP
          clear bP_0 bR_0 bE_0 oF_0 K0 r0 hn1
          have v7 : v < 7 := v1 (by omega)
          have hwr : IntKind.i64.wrap (4 + v) = 4 + v := IntWalk.i64_in _ (by omega)
          clear v1 v2
          obtain ⟨-, g, ge, gc, gf⟩ := own_cells oF_1.out (by rw [hlF.out]; decide)
          cases ge
          obtain ⟨u, gcj⟩ : ∃ u : Int, w1.cell? ⟨bf, j, none⟩ = some (.int .i64 u) := ⟨_, gc j (by have := hlF.out; omega)⟩
          have gfj := gf j
          have gsh := Lib.hid (OwnF.set1 (enc := encI) (xs := ps) (show OwnF 1 encI w1 bf 3 (.slice (some ⟨bf, 0, none⟩) ps.length 4) ps by rw [hlF.out]; exact oF_1.out) j (by have := hlF.out; omega) (4 + v))
          have gl : (ps.set j (4 + v)).length = 4 := by rw [List.length_set]; exact hlF.out
          clear gc gf
          have kz : Kp (fun b => b = bf) w1 (w1.setCell ⟨bf, j, none⟩ (.int .i64 (4 + v))) := (Kp.refl (fun b => b = bf) _).setCell (.inl rfl) _
          have hlF2 := hlF.out
          have hL : LR w br p bo bf #[.slice a1 nv d1, .slice a2 na d2, .slice a3 nb d3] (x) (j + 1) (w1.setCell ⟨bf, j, none⟩ (.int .i64 (4 + v))) := ⟨ps.set j (4 + v), q + 1, gl, one_on K1 kz (by omega), r1.keep kz (fun b e => by omega), by omega, (kz.block _ (heap_lt bP_1) (by omega)).trans bP_1, (kz.block _ (heap_lt bR_1) (by omega)).trans bR_1, (kz.block _ (heap_lt bE_1) (by omega)).trans bE_1, by have := gsh.out; rw [hlF2] at this; exact this⟩
          have hLh := Lib.hid hL
          clear hL kz K1 r1 bP_1 bR_1 bE_1 oF_1 gl gsh hlF hlF2
          go_wp2
          go_roundw
          case rel => exact ⟨j + 1, by omega, by go_num, hLh.out⟩
          case measure => simp [intOf]; omega
        have hz111 : (y == 111) = false := by simpa using hy111
        have hw1 : IntKind.i64.wrap ((at_ : Int) + 1) = (at_ : Int) + 1 := IntWalk.i64_in _ (by omega)
        have hw2 : IntKind.i64.wrap ((n : Int) - at_) = (n : Int) - at_ := IntWalk.i64_in _ (by omega)
        have hw3 : IntKind.i64.wrap ((n : Int) - at_ - 1) = (n : Int) - at_ - 1 := IntWalk.i64_in _ (by omega)
        have cP0 := cell_of_heap bP_0 0
        have cP1 := cell_of_heap bP_0 1
        have cP2 := cell_of_heap bP_0 2
        have lP := heap_lt bP_0
        go_wp2_with fail
        refine (pick wr br (q) _ r0 (by omega)).mono ?_
        rintro e w1 ⟨v, rfl, v0, v1, v2, hn1, r1⟩
        have z1 : wr.heap.size ≤ w1.heap.size := hn1.size
        have bP_1 := (hn1.block _ (heap_lt bP_0) (by omega)).trans bP_0
        have bR_1 := (hn1.block _ (heap_lt bR_0) (by omega)).trans bR_0
        have bE_1 := (hn1.block _ (heap_lt bE_0) (by omega)).trans bE_0
        have oF_1 := Lib.hid (oF_0.out.kb hn1 (fun b e => by omega))
        have K1 : One br w w1 := K0.trans hn1
        clear cP0 cP1 cP2 lP
        clear bP_0 bR_0 bE_0 oF_0 K0 r0 hn1
        have v8 : v ≤ 1000 := by
          by_cases hz : 1 ≤ (n : Int) - at_ - 1
          · have := v1 hz; omega
          · have := v2 (by omega); omega
        have hwr : IntKind.i64.wrap ((at_ : Int) + 1 + v) = (at_ : Int) + 1 + v := IntWalk.i64_in _ (by omega)
        clear v1 v2
        obtain ⟨-, g, ge, gc, gf⟩ := own_cells oF_1.out (by rw [hlF.out]; decide)
        cases ge
        obtain ⟨u, gcj⟩ : ∃ u : Int, w1.cell? ⟨bf, j, none⟩ = some (.int .i64 u) := ⟨_, gc j (by have := hlF.out; omega)⟩
        have gfj := gf j
        have gsh := Lib.hid (OwnF.set1 (enc := encI) (xs := ps) (show OwnF 1 encI w1 bf 3 (.slice (some ⟨bf, 0, none⟩) ps.length 4) ps by rw [hlF.out]; exact oF_1.out) j (by have := hlF.out; omega) ((at_ : Int) + 1 + v))
        have gl : (ps.set j ((at_ : Int) + 1 + v)).length = 4 := by rw [List.length_set]; exact hlF.out
        clear gc gf
        have kz : Kp (fun b => b = bf) w1 (w1.setCell ⟨bf, j, none⟩ (.int .i64 ((at_ : Int) + 1 + v))) := (Kp.refl (fun b => b = bf) _).setCell (.inl rfl) _
        have hlF2 := hlF.out
        have hL : LR w br p bo bf #[.slice a1 nv d1, .slice a2 na d2, .slice a3 nb d3] (x) (j + 1) (w1.setCell ⟨bf, j, none⟩ (.int .i64 ((at_ : Int) + 1 + v))) := ⟨ps.set j ((at_ : Int) + 1 + v), q + 1, gl, one_on K1 kz (by omega), r1.keep kz (fun b e => by omega), by omega, (kz.block _ (heap_lt bP_1) (by omega)).trans bP_1, (kz.block _ (heap_lt bR_1) (by omega)).trans bR_1, (kz.block _ (heap_lt bE_1) (by omega)).trans bE_1, by have := gsh.out; rw [hlF2] at this; exact this⟩
        have hLh := Lib.hid hL
        clear hL kz K1 r1 bP_1 bR_1 bE_1 oF_1 gl gsh hlF hlF2
        go_wp2
        go_roundw
        case rel => exact ⟨j + 1, by omega, by go_num, hLh.out⟩
        case measure => simp [intOf]; omega
      · have hje : j = kn := by omega
        subst hje
        clear hlt hj
        have hl4 := hlF.out
        match ps, hl4 with
        | [p0, p1, p2, p3], _ =>
          obtain ⟨-, g, ge, gc, gf⟩ := own_cells oF_0.out (by simp)
          cases ge
          have g0 : wr.cell? ⟨bf, 0, none⟩ = some (.int .i64 p0) := gc 0 (by simp)
          have g1 : wr.cell? ⟨bf, 1, none⟩ = some (.int .i64 p1) := gc 1 (by simp)
          have g2 : wr.cell? ⟨bf, 2, none⟩ = some (.int .i64 p2) := gc 2 (by simp)
          have g3 : wr.cell? ⟨bf, 3, none⟩ = some (.int .i64 p3) := gc 3 (by simp)
          clear gc gf oF_0 hlF
          have cE0 := cell_of_heap bE_0 0
          have lE := heap_lt bE_0
          have cR0 := cell_of_heap bR_0 0
          have cR1 := cell_of_heap bR_0 1
          have cR2 := cell_of_heap bR_0 2
          have cR3 := cell_of_heap bR_0 3
          have cR4 := cell_of_heap bR_0 4
          have fR := frozen_of_heap bR_0
          have lR := heap_lt bR_0
          go_wp2_with fail
          refine wp_region_tail (k := 15) (S := fun w' => w'.cell? ⟨bo, 0, none⟩ = some (.int .i64 x) ∧ w'.cell? ⟨bf, 0, none⟩ = some (.int .i64 p0) ∧ w'.cell? ⟨bf, 1, none⟩ = some (.int .i64 p1) ∧ w'.cell? ⟨bf, 2, none⟩ = some (.int .i64 p2) ∧ w'.cell? ⟨bf, 3, none⟩ = some (.int .i64 p3)) (by kernel_rfl) ?_ (fun hHeld => ?_)
          · exact ⟨cE0, g0, g1, g2, g3⟩
          clear cE0 lE cR0 cR1 cR2 cR3 cR4 fR lR
          have hn1 : New wr wr.drew := (Kp.refl _ _).drew
          generalize wr.drew = w1 at *
          have z1 : wr.heap.size ≤ w1.heap.size := hn1.size
          have bR_1 := (hn1.block _ (heap_lt bR_0) (fun f => f)).trans bR_0
          have bE_1 := (hn1.block _ (heap_lt bE_0) (fun f => f)).trans bE_0
          have K1 : One br w w1 := K0.trans (hn1.mono fun _ _ f => f.elim)
          have r1 := r0.keep hn1 (fun _ f => f.elim)
          clear bR_0 bE_0 K0 r0 hn1
          refine AnyK.takeW (i := 0) (v := ?vq1) rfl (by kernel_rfl) (by kernel_rfl) (by kernel_rfl) (by kernel_rfl) (fun _ _ _ h => h) (Or.inl ⟨by kernel_rfl, ?yq1⟩) (by assumption) ?rq1
          case yq1 =>
            intro w hSw
            try dsimp only at hSw
            go_simp
            try with_reducible rfl
          try simp only [Act.put, List.getElem_toArray, List.getElem_cons_zero, List.setIfInBounds_toArray, List.set_cons_zero, List.set_cons_succ]
          refine AnyK.take (i := 1) (v := ?vq2) rfl (by kernel_rfl) (by kernel_rfl) (by kernel_rfl) (by kernel_rfl) (fun _ _ _ h => h) (Or.inl ⟨by kernel_rfl, ?yq2⟩) (by assumption) ?rq2
          case yq2 =>
            intro w hSw
            try dsimp only at hSw
            go_simp
            try with_reducible rfl
          try simp only [Act.put, List.getElem_toArray, List.getElem_cons_zero, List.getElem_cons_succ, List.setIfInBounds_toArray, List.set_cons_zero, List.set_cons_succ]
          refine AnyK.takeW (i := 2) (v := ?vq3) rfl (by kernel_rfl) (by kernel_rfl) (by kernel_rfl) (by kernel_rfl) (fun _ _ _ h => h) (Or.inl ⟨by kernel_rfl, ?yq3⟩) (by assumption) ?rq3
          case yq3 =>
            intro w hSw
            try dsimp only at hSw
            go_simp
            try with_reducible rfl
          try simp only [Act.put, List.getElem_toArray, List.getElem_cons_zero, List.getElem_cons_succ, List.setIfInBounds_toArray, List.set_cons_zero, List.set_cons_succ]
          refine AnyK.takeW (i := 3) (v := ?vq4) rfl (by kernel_rfl) (by kernel_rfl) (by kernel_rfl) (by kernel_rfl) (fun _ _ _ h => h) (Or.inl ⟨by kernel_rfl, ?yq4⟩) (by assumption) ?rq4
          case yq4 =>
            intro w hSw
            try dsimp only at hSw
            go_simp
            try with_reducible rfl
          try simp only [Act.put, List.getElem_toArray, List.getElem_cons_zero, List.getElem_cons_succ, List.setIfInBounds_toArray, List.set_cons_zero, List.set_cons_succ]
          refine AnyK.take (i := 4) (v := ?vq5) rfl (by kernel_rfl) (by kernel_rfl) (by kernel_rfl) (by kernel_rfl) (fun _ _ _ h => h) (Or.inl ⟨by kernel_rfl, ?yq5⟩) (by assumption) ?rq5
          case yq5 =>
            intro w hSw
            try dsimp only at hSw
            go_simp
            try with_reducible rfl
          try simp only [Act.put, List.getElem_toArray, List.getElem_cons_zero, List.getElem_cons_succ, List.setIfInBounds_toArray, List.set_cons_zero, List.set_cons_succ]
          refine AnyK.takeW (i := 5) (v := ?vq6) rfl (by kernel_rfl) (by kernel_rfl) (by kernel_rfl) (by kernel_rfl) (fun _ _ _ h => h) (Or.inl ⟨by kernel_rfl, ?yq6⟩) (by assumption) ?rq6
          case yq6 =>
            intro w hSw
            try dsimp only at hSw
            go_simp
            try with_reducible rfl
          try simp only [Act.put, List.getElem_toArray, List.getElem_cons_zero, List.getElem_cons_succ, List.setIfInBounds_toArray, List.set_cons_zero, List.set_cons_succ]
          refine AnyK.takeW (i := 6) (v := ?vq7) rfl (by kernel_rfl) (by kernel_rfl) (by kernel_rfl) (by kernel_rfl) (fun _ _ _ h => h) (Or.inl ⟨by kernel_rfl, ?yq7⟩) (by assumption) ?rq7
          case yq7 =>
            intro w hSw
            try dsimp only at hSw
            go_simp
            try with_reducible rfl
          try simp only [Act.put, List.getElem_toArray, List.getElem_cons_zero, List.getElem_cons_succ, List.setIfInBounds_toArray, List.set_cons_zero, List.set_cons_succ]
          refine AnyK.take (i := 7) (v := ?vq8) rfl (by kernel_rfl) (by kernel_rfl) (by kernel_rfl) (by kernel_rfl) (fun _ _ _ h => h) (Or.inl ⟨by kernel_rfl, ?yq8⟩) (by assumption) ?rq8
          case yq8 =>
            intro w hSw
            try dsimp only at hSw
            go_simp
            try with_reducible rfl
          try simp only [Act.put, List.getElem_toArray, List.getElem_cons_zero, List.getElem_cons_succ, List.setIfInBounds_toArray, List.set_cons_zero, List.set_cons_succ]
          refine AnyK.takeW (i := 8) (v := ?vq9) rfl (by kernel_rfl) (by kernel_rfl) (by kernel_rfl) (by kernel_rfl) (fun _ _ _ h => h) (Or.inl ⟨by kernel_rfl, ?yq9⟩) (by assumption) ?rq9
          case yq9 =>
            intro w hSw
            try dsimp only at hSw
            go_simp
            try with_reducible rfl
          try simp only [Act.put, List.getElem_toArray, List.getElem_cons_zero, List.getElem_cons_succ, List.setIfInBounds_toArray, List.set_cons_zero, List.set_cons_succ]
          refine AnyK.takeW (i := 9) (v := ?vq10) rfl (by kernel_rfl) (by kernel_rfl) (by kernel_rfl) (by kernel_rfl) (fun _ _ _ h => h) (Or.inl ⟨by kernel_rfl, ?yq10⟩) (by assumption) ?rq10
          case yq10 =>
            intro w hSw
            try dsimp only at hSw
            go_simp
            try with_reducible rfl
          try simp only [Act.put, List.getElem_toArray, List.getElem_cons_zero, List.getElem_cons_succ, List.setIfInBounds_toArray, List.set_cons_zero, List.set_cons_succ]
          refine AnyK.take (i := 10) (v := ?vq11) rfl (by kernel_rfl) (by kernel_rfl) (by kernel_rfl) (by kernel_rfl) (fun _ _ _ h => h) (Or.inl ⟨by kernel_rfl, ?yq11⟩) (by assumption) ?rq11
          case yq11 =>
            intro w hSw
            try dsimp only at hSw
            go_simp
            try with_reducible rfl
          try simp only [Act.put, List.getElem_toArray, List.getElem_cons_zero, List.getElem_cons_succ, List.setIfInBounds_toArray, List.set_cons_zero, List.set_cons_succ]
          refine AnyK.takeW (i := 11) (v := ?vq12) rfl (by kernel_rfl) (by kernel_rfl) (by kernel_rfl) (by kernel_rfl) (fun _ _ _ h => h) (Or.inl ⟨by kernel_rfl, ?yq12⟩) (by assumption) ?rq12
          case yq12 =>
            intro w hSw
            try dsimp only at hSw
            go_simp
            try with_reducible rfl
          try simp only [Act.put, List.getElem_toArray, List.getElem_cons_zero, List.getElem_cons_succ, List.setIfInBounds_toArray, List.set_cons_zero, List.set_cons_succ]
          refine AnyK.takeW (i := 12) (v := ?vq13) rfl (by kernel_rfl) (by kernel_rfl) (by kernel_rfl) (by kernel_rfl) (fun _ _ _ h => h) (Or.inl ⟨by kernel_rfl, ?yq13⟩) (by assumption) ?rq13
          case yq13 =>
            intro w hSw
            try dsimp only at hSw
            go_simp
            try with_reducible rfl
          try simp only [Act.put, List.getElem_toArray, List.getElem_cons_zero, List.getElem_cons_succ, List.setIfInBounds_toArray, List.set_cons_zero, List.set_cons_succ]
          refine AnyK.take (i := 13) (v := ?vq14) rfl (by kernel_rfl) (by kernel_rfl) (by kernel_rfl) (by kernel_rfl) (fun _ _ _ h => h) (Or.inl ⟨by kernel_rfl, ?yq14⟩) (by assumption) ?rq14
          case yq14 =>
            intro w hSw
            try dsimp only at hSw
            go_simp
            try with_reducible rfl
          try simp only [Act.put, List.getElem_toArray, List.getElem_cons_zero, List.getElem_cons_succ, List.setIfInBounds_toArray, List.set_cons_zero, List.set_cons_succ]
          refine AnyK.takeW (i := 14) (v := ?vq15) rfl (by kernel_rfl) (by kernel_rfl) (by kernel_rfl) (by kernel_rfl) (fun _ _ _ h => h) (Or.inl ⟨by kernel_rfl, ?yq15⟩) (by assumption) ?rq15
          case yq15 =>
            intro w hSw
            try dsimp only at hSw
            go_simp
            try with_reducible rfl
          try simp only [Act.put, List.getElem_toArray, List.getElem_cons_zero, List.getElem_cons_succ, List.setIfInBounds_toArray, List.set_cons_zero, List.set_cons_succ]
          refine AnyK.last (by kernel_rfl) ?_
          simp only [List.drop_succ_cons, List.drop_zero]
          clear hHeld
          have cR0 := cell_of_heap bR_1 0
          have cR1 := cell_of_heap bR_1 1
          have cR2 := cell_of_heap bR_1 2
          have cR3 := cell_of_heap bR_1 3
          have cR4 := cell_of_heap bR_1 4
          have fR := frozen_of_heap bR_1
          have lR := heap_lt bR_1
          go_wp2
          have hkz := setMany_kp (w.heap.size + 1) [.int .i64 x, .int .i64 p0, .int .i64 p1, .int .i64 p2, .int .i64 p3] w1 0
          have zs := setMany_size (w.heap.size + 1) [.int .i64 x, .int .i64 p0, .int .i64 p1, .int .i64 p2, .int .i64 p3] w1 0
          have hR := setMany_row [.int .i64 x, .int .i64 p0, .int .i64 p1, .int .i64 p2, .int .i64 p3] bR_1 rfl
          exact bodyPost_ret (results_cell_row rfl _ _ _ _ _ _ _ rfl hR Try.underlying44 rfl (by kernel_rfl)) rfl ⟨⟨x, p0, p1, p2, p3⟩, q, rfl, one_on K1 hkz (by omega), r1.keep hkz (fun b e => by omega), by omega⟩
  have hna0 : na = 0 := by omega
  clear hz0
  subst hna0
  by_cases hx4 : x = 4
  · subst hx4
    have cP0 := cell_of_heap bP_2 0
    have cP1 := cell_of_heap bP_2 1
    have cP2 := cell_of_heap bP_2 2
    have lP := heap_lt bP_2
    have cE0 := cell_of_heap bE_2 0
    have cE1 := cell_of_heap bE_2 1
    have cE2 := cell_of_heap bE_2 2
    have cE3 := cell_of_heap bE_2 3
    have cE4 := cell_of_heap bE_2 4
    have fE := frozen_of_heap bE_2
    have lE := heap_lt bE_2
    go_upto_region 4 with fail
    have hk3 : Kp (fun k => k = bo) w2 (w2.setCell ⟨bo, 0, none⟩ (.int .i64 2)) := (Kp.setCell (Kp.refl (fun k => k = bo) _) (.inl rfl) _)
    have bE_3 : (w2.setCell ⟨bo, 0, none⟩ (.int .i64 2)).heap[bo]? = some (.cells #[.int .i64 2, .int .i64 0, .int .i64 0, .int .i64 0, .int .i64 0] 44) := (setCell_heap bE_2 _)
    generalize (w2.setCell ⟨bo, 0, none⟩ (.int .i64 2)) = w3 at *
    have z3 : w2.heap.size ≤ w3.heap.size := hk3.size
    have bP_3 := (hk3.block _ (heap_lt bP_2) (by omega)).trans bP_2
    have bR_3 := (hk3.block _ (heap_lt bR_2) (by omega)).trans bR_2
    have K3 : One br w w3 := one_on K2 hk3 (by omega)
    have r3 := r2.keep hk3 (fun i e => by omega)
    clear cP0 cP1 cP2 lP cE0 cE1 cE2 cE3 cE4 fE lE
    clear bP_2 bR_2 bE_2 K2 r2 hk3
    have cE0 := cell_of_heap bE_3 0
    have cE1 := cell_of_heap bE_3 1
    have cE2 := cell_of_heap bE_3 2
    have cE3 := cell_of_heap bE_3 3
    have cE4 := cell_of_heap bE_3 4
    have lE := heap_lt bE_3
    go_wp2_with fail
    clear cE0 cE1 cE2 cE3 cE4 lE
    refine (CodeV.l6Fields (w := w3) (op := 2) (by omega) (by omega)).mono ?_
    rintro e w4 ⟨ks, rfl, hks, hn4⟩
    have z4 : w3.heap.size ≤ w4.heap.size := hn4.size
    have bP_4 := (hn4.block _ (heap_lt bP_3) (fun f => f)).trans bP_3
    have bR_4 := (hn4.block _ (heap_lt bR_3) (fun f => f)).trans bR_3
    have bE_4 := (hn4.block _ (heap_lt bE_3) (fun f => f)).trans bE_3
    have K4 : One br w w4 := K3.trans (hn4.mono fun _ _ f => f.elim)
    have r4 := r3.keep hn4 (fun _ f => f.elim)
    clear bP_3 bR_3 bE_3 K3 r3 hn4
    obtain ⟨kn, hkn⟩ : ∃ kn, ks.size = kn := ⟨_, rfl⟩
    have kl : kn ≤ 4 := by rw [← hkn]; rw [CodeV.ba_len hks]; exact letters4 (op := 2) (by omega) (by omega)
    clear hks
    have hn5 : New w4 (w4.alloc (.cells #[.int .i64 0, .int .i64 0, .int .i64 0, .int .i64 0] 3)) := (Kp.refl _ _).alloc _
    have y5 : w4.heap.size < (w4.alloc (.cells #[.int .i64 0, .int .i64 0, .int .i64 0, .int .i64 0] 3)).heap.size := lt_alloc _ _
    have oF_5 := four w4 3
    go_wp2_with fail
    generalize hbf : w4.heap.size = bf at oF_5 y5 ⊢
    have hbf2 : bo < bf := by have := heap_lt bE_4; omega
    generalize (w4.alloc (.cells #[.int .i64 0, .int .i64 0, .int .i64 0, .int .i64 0] 3)) = w5 at *
    have z5 : w4.heap.size ≤ w5.heap.size := hn5.size
    have bP_5 := (hn5.block _ (heap_lt bP_4) (fun f => f)).trans bP_4
    have bR_5 := (hn5.block _ (heap_lt bR_4) (fun f => f)).trans bR_4
    have bE_5 := (hn5.block _ (heap_lt bE_4) (fun f => f)).trans bE_4
    have K5 : One br w w5 := K4.trans (hn5.mono fun _ _ f => f.elim)
    have r5 := r4.keep hn5 (fun _ f => f.elim)
    clear bP_4 bR_4 bE_4 K4 r4 hn5
    have hL : LR w br p bo bf #[.slice a1 nv d1, .slice a2 0 d2, .slice a3 nb d3] (2) 0 w5 := ⟨[0, 0, 0, 0], p + 1, rfl, K5, r5, by omega, bP_5, bR_5, bE_5, oF_5⟩
    have hLh := Lib.hid hL
    clear hL K5 r5 bP_5 bR_5 bE_5 oF_5
    go_loopw [12] (fun i wr => ∃ j : Nat, j ≤ kn ∧ i = .int .i64 j ∧ LR w br p bo bf #[.slice a1 nv d1, .slice a2 0 d2, .slice a3 nb d3] (2) j wr) (fun i _ => kn - (intOf i).toNat)
    case atStart => exact ⟨0, Nat.zero_le _, rfl, hLh.out⟩
    case round =>
      obtain ⟨j, hj, rfl, ps, q, hl, K0, r0, hq, bP_0, bR_0, bE_0, hF⟩ := hrel
      clear hLh
      have oF_0 := Lib.hid hF
      have hlF := Lib.hid hl
      have zw := K0.size
      have zE := heap_lt bE_0
      have hbr2 := r0.lt
      clear hl hF
      by_cases hlt : j < kn
      · have hk : j < ks.size := by omega
        go_upto_region 11 with fail
        generalize ((ks[j].toNat : Nat) : Int) = y at *
        by_cases hy114 : y = 114
        · subst hy114
          have cP0 := cell_of_heap bP_0 0
          have cP1 := cell_of_heap bP_0 1
          have cP2 := cell_of_heap bP_0 2
          have lP := heap_lt bP_0
          go_wp2_with fail
          refine (pick wr br (q) _ r0 (by omega)).mono ?_
          rintro e w1 ⟨v, rfl, v0, v1, v2, hn1, r1⟩
          have z1 : wr.heap.size ≤ w1.heap.size := hn1.size
          have bP_1 := (hn1.block _ (heap_lt bP_0) (by omega)).trans bP_0
          have bR_1 := (hn1.block _ (heap_lt bR_0) (by omega)).trans bR_0
          have bE_1 := (hn1.block _ (heap_lt bE_0) (by omega)).trans bE_0
          have oF_1 := Lib.hid (oF_0.out.kb hn1 (fun b e => by omega))
          have K1 : One br w w1 := K0.trans hn1
          clear cP0 cP1 cP2 lP
          clear bP_0 bR_0 bE_0 oF_0 K0 r0 hn1
          clear v1 v2
          obtain ⟨-, g, ge, gc, gf⟩ := own_cells oF_1.out (by rw [hlF.out]; decide)
          cases ge
          obtain ⟨u, gcj⟩ : ∃ u : Int, w1.cell? ⟨bf, j, none⟩ = some (.int .i64 u) := ⟨_, gc j (by have := hlF.out; omega)⟩
          have gfj := gf j
          have gsh := Lib.hid (OwnF.set1 (enc := encI) (xs := ps) (show OwnF 1 encI w1 bf 3 (.slice (some ⟨bf, 0, none⟩) ps.length 4) ps by rw [hlF.out]; exact oF_1.out) j (by have := hlF.out; omega) (v))
          have gl : (ps.set j (v)).length = 4 := by rw [List.length_set]; exact hlF.out
          clear gc gf
          have kz : Kp (fun b => b = bf) w1 (w1.setCell ⟨bf, j, none⟩ (.int .i64 (v))) := (Kp.refl (fun b => b = bf) _).setCell (.inl rfl) _
          have hlF2 := hlF.out
          have hL : LR w br p bo bf #[.slice a1 nv d1, .slice a2 0 d2, .slice a3 nb d3] (2) (j + 1) (w1.setCell ⟨bf, j, none⟩ (.int .i64 (v))) := ⟨ps.set j (v), q + 1, gl, one_on K1 kz (by omega), r1.keep kz (fun b e => by omega), by omega, (kz.block _ (heap_lt bP_1) (by omega)).trans bP_1, (kz.block _ (heap_lt bR_1) (by omega)).trans bR_1, (kz.block _ (heap_lt bE_1) (by omega)).trans bE_1, by have := gsh.out; rw [hlF2] at this; exact this⟩
          have hLh := Lib.hid hL
          clear hL kz K1 r1 bP_1 bR_1 bE_1 oF_1 gl gsh hlF hlF2
          go_wp2
          go_roundw
          case rel => exact ⟨j + 1, by omega, by go_num, hLh.out⟩
          case measure => simp [intOf]; omega
        have hz114 : (y == 114) = false := by simpa using hy114
        by_cases hy99 : y = 99
        · subst hy99
          have cP0 := cell_of_heap bP_0 0
          have cP1 := cell_of_heap bP_0 1
          have cP2 := cell_of_heap bP_0 2
          have lP := heap_lt bP_0
          go_wp2_with fail
          refine (DrawV.l3Value wr br (q) r0 (by omega)).mono ?_
          rintro e w1 ⟨v, rfl, ⟨v0, v1⟩, hn1, r1⟩
          have z1 : wr.heap.size ≤ w1.heap.size := hn1.size
          have bP_1 := (hn1.block _ (heap_lt bP_0) (by omega)).trans bP_0
          have bR_1 := (hn1.block _ (heap_lt bR_0) (by omega)).trans bR_0
          have bE_1 := (hn1.block _ (heap_lt bE_0) (by omega)).trans bE_0
          have oF_1 := Lib.hid (oF_0.out.kb hn1 (fun b e => by omega))
          have K1 : One br w w1 := K0.trans hn1
          clear cP0 cP1 cP2 lP
          clear bP_0 bR_0 bE_0 oF_0 K0 r0 hn1
          obtain ⟨-, g, ge, gc, gf⟩ := own_cells oF_1.out (by rw [hlF.out]; decide)
          cases ge
          obtain ⟨u, gcj⟩ : ∃ u : Int, w1.cell? ⟨bf, j, none⟩ = some (.int .i64 u) := ⟨_, gc j (by have := hlF.out; omega)⟩
          have gfj := gf j
          have gsh := Lib.hid (OwnF.set1 (enc := encI) (xs := ps) (show OwnF 1 encI w1 bf 3 (.slice (some ⟨bf, 0, none⟩) ps.length 4) ps by rw [hlF.out]; exact oF_1.out) j (by have := hlF.out; omega) (v))
          have gl : (ps.set j (v)).length = 4 := by rw [List.length_set]; exact hlF.out
          clear gc gf
          have kz : Kp (fun b => b = bf) w1 (w1.setCell ⟨bf, j, none⟩ (.int .i64 (v))) := (Kp.refl (fun b => b = bf) _).setCell (.inl rfl) _
          have hlF2 := hlF.out
          have hL : LR w br p bo bf #[.slice a1 nv d1, .slice a2 0 d2, .slice a3 nb d3] (2) (j + 1) (w1.setCell ⟨bf, j, none⟩ (.int .i64 (v))) := ⟨ps.set j (v), q + 1, gl, one_on K1 kz (by omega), r1.keep kz (fun b e => by omega), by omega, (kz.block _ (heap_lt bP_1) (by omega)).trans bP_1, (kz.block _ (heap_lt bR_1) (by omega)).trans bR_1, (kz.block _ (heap_lt bE_1) (by omega)).trans bE_1, by have := gsh.out; rw [hlF2] at this; exact this⟩
          have hLh := Lib.hid hL
          clear hL kz K1 r1 bP_1 bR_1 bE_1 oF_1 gl gsh hlF hlF2
          go_wp2
          go_roundw
          case rel => exact ⟨j + 1, by omega, by go_num, hLh.out⟩
          case measure => simp [intOf]; omega
        have hz99 : (y == 99) = false := by simpa using hy99
        by_cases hy118 : y = 118
        · subst hy118
          have cP0 := cell_of_heap bP_0 0
          have cP1 := cell_of_heap bP_0 1
          have cP2 := cell_of_heap bP_0 2
          have lP := heap_lt bP_0
          go_wp2_with fail
          refine (pick wr br (q) _ r0 (by omega)).mono ?_
          rintro e w1 ⟨v, rfl, v0, v1, v2, hn1, r1⟩
          have z1 : wr.heap.size ≤ w1.heap.size := hn1.size
          have bP_1 := (hn1.block _ (heap_lt bP_0) (by omega)).trans bP_0
          have bR_1 := (hn1.block _ (heap_lt bR_0) (by omega)).trans bR_0
          have bE_1 := (hn1.block _ (heap_lt bE_0) (by omega)).trans bE_0
          have oF_1 := Lib.hid (oF_0.out.kb hn1 (fun b e => by omega))
          have K1 : One br w w1 := K0.trans hn1
          clear cP0 cP1 cP2 lP
          clear bP_0 bR_0 bE_0 oF_0 K0 r0 hn1
          clear v1 v2
          obtain ⟨-, g, ge, gc, gf⟩ := own_cells oF_1.out (by rw [hlF.out]; decide)
          cases ge
          obtain ⟨u, gcj⟩ : ∃ u : Int, w1.cell? ⟨bf, j, none⟩ = some (.int .i64 u) := ⟨_, gc j (by have := hlF.out; omega)⟩
          have gfj := gf j
          have gsh := Lib.hid (OwnF.set1 (enc := encI) (xs := ps) (show OwnF 1 encI w1 bf 3 (.slice (some ⟨bf, 0, none⟩) ps.length 4) ps by rw [hlF.out]; exact oF_1.out) j (by have := hlF.out; omega) (v))
          have gl : (ps.set j (v)).length = 4 := by rw [List.length_set]; exact hlF.out
          clear gc gf
          have kz : Kp (fun b => b = bf) w1 (w1.setCell ⟨bf, j, none⟩ (.int .i64 (v))) := (Kp.refl (fun b => b = bf) _).setCell (.inl rfl) _
          have hlF2 := hlF.out
          have hL : LR w br p bo bf #[.slice a1 nv d1, .slice a2 0 d2, .slice a3 nb d3] (2) (j + 1) (w1.setCell ⟨bf, j, none⟩ (.int .i64 (v))) := ⟨ps.set j (v), q + 1, gl, one_on K1 kz (by omega), r1.keep kz (fun b e => by omega), by omega, (kz.block _ (heap_lt bP_1) (by omega)).trans bP_1, (kz.block _ (heap_lt bR_1) (by omega)).trans bR_1, (kz.block _ (heap_lt bE_1) (by omega)).trans bE_1, by have := gsh.out; rw [hlF2] at this; exact this⟩
          have hLh := Lib.hid hL
          clear hL kz K1 r1 bP_1 bR_1 bE_1 oF_1 gl gsh hlF hlF2
          go_wp2
          go_roundw
          case rel => exact ⟨j + 1, by omega, by go_num, hLh.out⟩
          case measure => simp [intOf]; omega
        have hz118 : (y == 118) = false := by simpa using hy118
        by_cases hy97 : y = 97
        · subst hy97
          have cP0 := cell_of_heap bP_0 0
          have cP1 := cell_of_heap bP_0 1
          have cP2 := cell_of_heap bP_0 2
          have lP := heap_lt bP_0
          go_wp2_with fail
          refine (pick wr br (q) _ r0 (by omega)).mono ?_
          rintro e w1 ⟨v, rfl, v0, v1, v2, hn1, r1⟩
          have z1 : wr.heap.size ≤ w1.heap.size := hn1.size
          have bP_1 := (hn1.block _ (heap_lt bP_0) (by omega)).trans bP_0
          have bR_1 := (hn1.block _ (heap_lt bR_0) (by omega)).trans bR_0
          have bE_1 := (hn1.block _ (heap_lt bE_0) (by omega)).trans bE_0
          have oF_1 := Lib.hid (oF_0.out.kb hn1 (fun b e => by omega))
          have K1 : One br w w1 := K0.trans hn1
          clear cP0 cP1 cP2 lP
          clear bP_0 bR_0 bE_0 oF_0 K0 r0 hn1
          clear v1 v2
          obtain ⟨-, g, ge, gc, gf⟩ := own_cells oF_1.out (by rw [hlF.out]; decide)
          cases ge
          obtain ⟨u, gcj⟩ : ∃ u : Int, w1.cell? ⟨bf, j, none⟩ = some (.int .i64 u) := ⟨_, gc j (by have := hlF.out; omega)⟩
          have gfj := gf j
          have gsh := Lib.hid (OwnF.set1 (enc := encI) (xs := ps) (show OwnF 1 encI w1 bf 3 (.slice (some ⟨bf, 0, none⟩) ps.length 4) ps by rw [hlF.out]; exact oF_1.out) j (by have := hlF.out; omega) (v))
          have gl : (ps.set j (v)).length = 4 := by rw [List.length_set]; exact hlF.out
          clear gc gf
          have kz : Kp (fun b => b = bf) w1 (w1.setCell ⟨bf, j, none⟩ (.int .i64 (v))) := (Kp.refl (fun b => b = bf) _).setCell (.inl rfl) _
          have hlF2 := hlF.out
          have hL : LR w br p bo bf #[.slice a1 nv d1, .slice a2 0 d2, .slice a3 nb d3] (2) (j + 1) (w1.setCell ⟨bf, j, none⟩ (.int .i64 (v))) := ⟨ps.set j (v), q + 1, gl, one_on K1 kz (by omega), r1.keep kz (fun b e => by omega), by omega, (kz.block _ (heap_lt bP_1) (by omega)).trans bP_1, (kz.block _ (heap_lt bR_1) (by omega)).trans bR_1, (kz.block _ (heap_lt bE_1) (by omega)).trans bE_1, by have := gsh.out; rw [hlF2] at this; exact this⟩
          have hLh := Lib.hid hL
          clear hL kz K1 r1 bP_1 bR_1 bE_1 oF_1 gl gsh hlF hlF2
          go_wp2
          go_roundw
          case rel => exact ⟨j + 1, by omega, by go_num, hLh.out⟩
          case measure => simp [intOf]; omega
        have hz97 : (y == 97) = false := by simpa using hy97
        by_cases hy111 : y = 111
        · subst hy111
          have cP0 := cell_of_heap bP_0 0
          have cP1 := cell_of_heap bP_0 1
          have cP2 := cell_of_heap bP_0 2
          have lP := heap_lt bP_0
          go_wp2_with fail
          refine (pick wr br (q) _ r0 (by omega)).mono ?_
          rintro e w1 ⟨v, rfl, v0, v1, v2, hn1, r1⟩
          have z1 : wr.heap.size ≤ w1.heap.size := hn1.size
          have bP_1 := (hn1.block _ (heap_lt bP_0) (by omega)).trans bP_0
          have bR_1 := (hn1.block _ (heap_lt bR_0) (by omega)).trans bR_0
          have bE_1 := (hn1.block _ (heap_lt bE_0) (by omega)).trans bE_0
          have oF_1 := Lib.hid (oF_0.out.kb hn1 (fun b e => by omega))
          have K1 : One br w w1 := K0.trans hn1
          clear cP0 cP1 cP2 lP
          clear bP_0 bR_0 bE_0 oF_0 K0 r0 hn1
          have v7 : v < 7 := v1 (by omega)
          have hwr : IntKind.i64.wrap (4 + v) = 4 + v := IntWalk.i64_in _ (by omega)
          clear v1 v2
          obtain ⟨-, g, ge, gc, gf⟩ := own_cells oF_1.out (by rw [hlF.out]; decide)
          cases ge
          obtain ⟨u, gcj⟩ : ∃ u : Int, w1.cell? ⟨bf, j, none⟩ = some (.int .i64 u) := ⟨_, gc j (by have := hlF.out; omega)⟩
          have gfj := gf j
          have gsh := Lib.hid (OwnF.set1 (enc := encI) (xs := ps) (show OwnF 1 encI w1 bf 3 (.slice (some ⟨bf, 0, none⟩) ps.length 4) ps by rw [hlF.out]; exact oF_1.out) j (by have := hlF.out; omega) (4 + v))
          have gl : (ps.set j (4 + v)).length = 4 := by rw [List.length_set]; exact hlF.out
          clear gc gf
          have kz : Kp (fun b => b = bf) w1 (w1.setCell ⟨bf, j, none⟩ (.int .i64 (4 + v))) := (Kp.refl (fun b => b = bf) _).setCell (.inl rfl) _
          have hlF2 := hlF.out
          have hL : LR w br p bo bf #[.slice a1 nv d1, .slice a2 0 d2, .slice a3 nb d3] (2) (j + 1) (w1.setCell ⟨bf, j, none⟩ (.int .i64 (4 + v))) := ⟨ps.set j (4 + v), q + 1, gl, one_on K1 kz (by omega), r1.keep kz (fun b e => by omega), by omega, (kz.block _ (heap_lt bP_1) (by omega)).trans bP_1, (kz.block _ (heap_lt bR_1) (by omega)).trans bR_1, (kz.block _ (heap_lt bE_1) (by omega)).trans bE_1, by have := gsh.out; rw [hlF2] at this; exact this⟩
          have hLh := Lib.hid hL
          clear hL kz K1 r1 bP_1 bR_1 bE_1 oF_1 gl gsh hlF hlF2
          go_wp2
          go_roundw
          case rel => exact ⟨j + 1, by omega, by go_num, hLh.out⟩
          case measure => simp [intOf]; omega
        have hz111 : (y == 111) = false := by simpa using hy111
        have hw1 : IntKind.i64.wrap ((at_ : Int) + 1) = (at_ : Int) + 1 := IntWalk.i64_in _ (by omega)
        have hw2 : IntKind.i64.wrap ((n : Int) - at_) = (n : Int) - at_ := IntWalk.i64_in _ (by omega)
        have hw3 : IntKind.i64.wrap ((n : Int) - at_ - 1) = (n : Int) - at_ - 1 := IntWalk.i64_in _ (by omega)
        have cP0 := cell_of_heap bP_0 0
        have cP1 := cell_of_heap bP_0 1
        have cP2 := cell_of_heap bP_0 2
        have lP := heap_lt bP_0
        go_wp2_with fail
        refine (pick wr br (q) _ r0 (by omega)).mono ?_
        rintro e w1 ⟨v, rfl, v0, v1, v2, hn1, r1⟩
        have z1 : wr.heap.size ≤ w1.heap.size := hn1.size
        have bP_1 := (hn1.block _ (heap_lt bP_0) (by omega)).trans bP_0
        have bR_1 := (hn1.block _ (heap_lt bR_0) (by omega)).trans bR_0
        have bE_1 := (hn1.block _ (heap_lt bE_0) (by omega)).trans bE_0
        have oF_1 := Lib.hid (oF_0.out.kb hn1 (fun b e => by omega))
        have K1 : One br w w1 := K0.trans hn1
        clear cP0 cP1 cP2 lP
        clear bP_0 bR_0 bE_0 oF_0 K0 r0 hn1
        have v8 : v ≤ 1000 := by
          by_cases hz : 1 ≤ (n : Int) - at_ - 1
          · have := v1 hz; omega
          · have := v2 (by omega); omega
        have hwr : IntKind.i64.wrap ((at_ : Int) + 1 + v) = (at_ : Int) + 1 + v := IntWalk.i64_in _ (by omega)
        clear v1 v2
        obtain ⟨-, g, ge, gc, gf⟩ := own_cells oF_1.out (by rw [hlF.out]; decide)
        cases ge
        obtain ⟨u, gcj⟩ : ∃ u : Int, w1.cell? ⟨bf, j, none⟩ = some (.int .i64 u) := ⟨_, gc j (by have := hlF.out; omega)⟩
        have gfj := gf j
        have gsh := Lib.hid (OwnF.set1 (enc := encI) (xs := ps) (show OwnF 1 encI w1 bf 3 (.slice (some ⟨bf, 0, none⟩) ps.length 4) ps by rw [hlF.out]; exact oF_1.out) j (by have := hlF.out; omega) ((at_ : Int) + 1 + v))
        have gl : (ps.set j ((at_ : Int) + 1 + v)).length = 4 := by rw [List.length_set]; exact hlF.out
        clear gc gf
        have kz : Kp (fun b => b = bf) w1 (w1.setCell ⟨bf, j, none⟩ (.int .i64 ((at_ : Int) + 1 + v))) := (Kp.refl (fun b => b = bf) _).setCell (.inl rfl) _
        have hlF2 := hlF.out
        have hL : LR w br p bo bf #[.slice a1 nv d1, .slice a2 0 d2, .slice a3 nb d3] (2) (j + 1) (w1.setCell ⟨bf, j, none⟩ (.int .i64 ((at_ : Int) + 1 + v))) := ⟨ps.set j ((at_ : Int) + 1 + v), q + 1, gl, one_on K1 kz (by omega), r1.keep kz (fun b e => by omega), by omega, (kz.block _ (heap_lt bP_1) (by omega)).trans bP_1, (kz.block _ (heap_lt bR_1) (by omega)).trans bR_1, (kz.block _ (heap_lt bE_1) (by omega)).trans bE_1, by have := gsh.out; rw [hlF2] at this; exact this⟩
        have hLh := Lib.hid hL
        clear hL kz K1 r1 bP_1 bR_1 bE_1 oF_1 gl gsh hlF hlF2
        go_wp2
        go_roundw
        case rel => exact ⟨j + 1, by omega, by go_num, hLh.out⟩
        case measure => simp [intOf]; omega
      · have hje : j = kn := by omega
        subst hje
        clear hlt hj
        have hl4 := hlF.out
        match ps, hl4 with
        | [p0, p1, p2, p3], _ =>
          obtain ⟨-, g, ge, gc, gf⟩ := own_cells oF_0.out (by simp)
          cases ge
          have g0 : wr.cell? ⟨bf, 0, none⟩ = some (.int .i64 p0) := gc 0 (by simp)
          have g1 : wr.cell? ⟨bf, 1, none⟩ = some (.int .i64 p1) := gc 1 (by simp)
          have g2 : wr.cell? ⟨bf, 2, none⟩ = some (.int .i64 p2) := gc 2 (by simp)
          have g3 : wr.cell? ⟨bf, 3, none⟩ = some (.int .i64 p3) := gc 3 (by simp)
          clear gc gf oF_0 hlF
          have cE0 := cell_of_heap bE_0 0
          have lE := heap_lt bE_0
          have cR0 := cell_of_heap bR_0 0
          have cR1 := cell_of_heap bR_0 1
          have cR2 := cell_of_heap bR_0 2
          have cR3 := cell_of_heap bR_0 3
          have cR4 := cell_of_heap bR_0 4
          have fR := frozen_of_heap bR_0
          have lR := heap_lt bR_0
          go_wp2_with fail
          refine wp_region_tail (k := 15) (S := fun w' => w'.cell? ⟨bo, 0, none⟩ = some (.int .i64 2) ∧ w'.cell? ⟨bf, 0, none⟩ = some (.int .i64 p0) ∧ w'.cell? ⟨bf, 1, none⟩ = some (.int .i64 p1) ∧ w'.cell? ⟨bf, 2, none⟩ = some (.int .i64 p2) ∧ w'.cell? ⟨bf, 3, none⟩ = some (.int .i64 p3)) (by kernel_rfl) ?_ (fun hHeld => ?_)
          · exact ⟨cE0, g0, g1, g2, g3⟩
          clear cE0 lE cR0 cR1 cR2 cR3 cR4 fR lR
          have hn1 : New wr wr.drew := (Kp.refl _ _).drew
          generalize wr.drew = w1 at *
          have z1 : wr.heap.size ≤ w1.heap.size := hn1.size
          have bR_1 := (hn1.block _ (heap_lt bR_0) (fun f => f)).trans bR_0
          have bE_1 := (hn1.block _ (heap_lt bE_0) (fun f => f)).trans bE_0
          have K1 : One br w w1 := K0.trans (hn1.mono fun _ _ f => f.elim)
          have r1 := r0.keep hn1 (fun _ f => f.elim)
          clear bR_0 bE_0 K0 r0 hn1
          refine AnyK.takeW (i := 0) (v := ?vq16) rfl (by kernel_rfl) (by kernel_rfl) (by kernel_rfl) (by kernel_rfl) (fun _ _ _ h => h) (Or.inl ⟨by kernel_rfl, ?yq16⟩) (by assumption) ?rq16
          case yq16 =>
            intro w hSw
            try dsimp only at hSw
            go_simp
            try with_reducible rfl
          try simp only [Act.put, List.getElem_toArray, List.getElem_cons_zero, List.setIfInBounds_toArray, List.set_cons_zero, List.set_cons_succ]
          refine AnyK.take (i := 1) (v := ?vq17) rfl (by kernel_rfl) (by kernel_rfl) (by kernel_rfl) (by kernel_rfl) (fun _ _ _ h => h) (Or.inl ⟨by kernel_rfl, ?yq17⟩) (by assumption) ?rq17
          case yq17 =>
            intro w hSw
            try dsimp only at hSw
            go_simp
            try with_reducible rfl
          try simp only [Act.put, List.getElem_toArray, List.getElem_cons_zero, List.getElem_cons_succ, List.setIfInBounds_toArray, List.set_cons_zero, List.set_cons_succ]
          refine AnyK.takeW (i := 2) (v := ?vq18) rfl (by kernel_rfl) (by kernel_rfl) (by kernel_rfl) (by kernel_rfl) (fun _ _ _ h => h) (Or.inl ⟨by kernel_rfl, ?yq18⟩) (by assumption) ?rq18
          case yq18 =>
            intro w hSw
            try dsimp only at hSw
            go_simp
            try with_reducible rfl
          try simp only [Act.put, List.getElem_toArray, List.getElem_cons_zero, List.getElem_cons_succ, List.setIfInBounds_toArray, List.set_cons_zero, List.set_cons_succ]
          refine AnyK.takeW (i := 3) (v := ?vq19) rfl (by kernel_rfl) (by kernel_rfl) (by kernel_rfl) (by kernel_rfl) (fun _ _ _ h => h) (Or.inl ⟨by kernel_rfl, ?yq19⟩) (by assumption) ?rq19
          case yq19 =>
            intro w hSw
            try dsimp only at hSw
            go_simp
            try with_reducible rfl
          try simp only [Act.put, List.getElem_toArray, List.getElem_cons_zero, List.getElem_cons_succ, List.setIfInBounds_toArray, List.set_cons_zero, List.set_cons_succ]
          refine AnyK.take (i := 4) (v := ?vq20) rfl (by kernel_rfl) (by kernel_rfl) (by kernel_rfl) (by kernel_rfl) (fun _ _ _ h => h) (Or.inl ⟨by kernel_rfl, ?yq20⟩) (by assumption) ?rq20
          case yq20 =>
            intro w hSw
            try dsimp only at hSw
            go_simp
            try with_reducible rfl
          try simp only [Act.put, List.getElem_toArray, List.getElem_cons_zero, List.getElem_cons_succ, List.setIfInBounds_toArray, List.set_cons_zero, List.set_cons_succ]
          refine AnyK.takeW (i := 5) (v := ?vq21) rfl (by kernel_rfl) (by kernel_rfl) (by kernel_rfl) (by kernel_rfl) (fun _ _ _ h => h) (Or.inl ⟨by kernel_rfl, ?yq21⟩) (by assumption) ?rq21
          case yq21 =>
            intro w hSw
            try dsimp only at hSw
            go_simp
            try with_reducible rfl
          try simp only [Act.put, List.getElem_toArray, List.getElem_cons_zero, List.getElem_cons_succ, List.setIfInBounds_toArray, List.set_cons_zero, List.set_cons_succ]
          refine AnyK.takeW (i := 6) (v := ?vq22) rfl (by kernel_rfl) (by kernel_rfl) (by kernel_rfl) (by kernel_rfl) (fun _ _ _ h => h) (Or.inl ⟨by kernel_rfl, ?yq22⟩) (by assumption) ?rq22
          case yq22 =>
            intro w hSw
            try dsimp only at hSw
            go_simp
            try with_reducible rfl
          try simp only [Act.put, List.getElem_toArray, List.getElem_cons_zero, List.getElem_cons_succ, List.setIfInBounds_toArray, List.set_cons_zero, List.set_cons_succ]
          refine AnyK.take (i := 7) (v := ?vq23) rfl (by kernel_rfl) (by kernel_rfl) (by kernel_rfl) (by kernel_rfl) (fun _ _ _ h => h) (Or.inl ⟨by kernel_rfl, ?yq23⟩) (by assumption) ?rq23
          case yq23 =>
            intro w hSw
            try dsimp only at hSw
            go_simp
            try with_reducible rfl
          try simp only [Act.put, List.getElem_toArray, List.getElem_cons_zero, List.getElem_cons_succ, List.setIfInBounds_toArray, List.set_cons_zero, List.set_cons_succ]
          refine AnyK.takeW (i := 8) (v := ?vq24) rfl (by kernel_rfl) (by kernel_rfl) (by kernel_rfl) (by kernel_rfl) (fun _ _ _ h => h) (Or.inl ⟨by kernel_rfl, ?yq24⟩) (by assumption) ?rq24
          case yq24 =>
            intro w hSw
            try dsimp only at hSw
            go_simp
            try with_reducible rfl
          try simp only [Act.put, List.getElem_toArray, List.getElem_cons_zero, List.getElem_cons_succ, List.setIfInBounds_toArray, List.set_cons_zero, List.set_cons_succ]
          refine AnyK.takeW (i := 9) (v := ?vq25) rfl (by kernel_rfl) (by kernel_rfl) (by kernel_rfl) (by kernel_rfl) (fun _ _ _ h => h) (Or.inl ⟨by kernel_rfl, ?yq25⟩) (by assumption) ?rq25
          case yq25 =>
            intro w hSw
            try dsimp only at hSw
            go_simp
            try with_reducible rfl
          try simp only [Act.put, List.getElem_toArray, List.getElem_cons_zero, List.getElem_cons_succ, List.setIfInBounds_toArray, List.set_cons_zero, List.set_cons_succ]
          refine AnyK.take (i := 10) (v := ?vq26) rfl (by kernel_rfl) (by kernel_rfl) (by kernel_rfl) (by kernel_rfl) (fun _ _ _ h => h) (Or.inl ⟨by kernel_rfl, ?yq26⟩) (by assumption) ?rq26
          case yq26 =>
            intro w hSw
            try dsimp only at hSw
            go_simp
            try with_reducible rfl
          try simp only [Act.put, List.getElem_toArray, List.getElem_cons_zero, List.getElem_cons_succ, List.setIfInBounds_toArray, List.set_cons_zero, List.set_cons_succ]
          refine AnyK.takeW (i := 11) (v := ?vq27) rfl (by kernel_rfl) (by kernel_rfl) (by kernel_rfl) (by kernel_rfl) (fun _ _ _ h => h) (Or.inl ⟨by kernel_rfl, ?yq27⟩) (by assumption) ?rq27
          case yq27 =>
            intro w hSw
            try dsimp only at hSw
            go_simp
            try with_reducible rfl
          try simp only [Act.put, List.getElem_toArray, List.getElem_cons_zero, List.getElem_cons_succ, List.setIfInBounds_toArray, List.set_cons_zero, List.set_cons_succ]
          refine AnyK.takeW (i := 12) (v := ?vq28) rfl (by kernel_rfl) (by kernel_rfl) (by kernel_rfl) (by kernel_rfl) (fun _ _ _ h => h) (Or.inl ⟨by kernel_rfl, ?yq28⟩) (by assumption) ?rq28
          case yq28 =>
            intro w hSw
            try dsimp only at hSw
            go_simp
            try with_reducible rfl
          try simp only [Act.put, List.getElem_toArray, List.getElem_cons_zero, List.getElem_cons_succ, List.setIfInBounds_toArray, List.set_cons_zero, List.set_cons_succ]
          refine AnyK.take (i := 13) (v := ?vq29) rfl (by kernel_rfl) (by kernel_rfl) (by kernel_rfl) (by kernel_rfl) (fun _ _ _ h => h) (Or.inl ⟨by kernel_rfl, ?yq29⟩) (by assumption) ?rq29
          case yq29 =>
            intro w hSw
            try dsimp only at hSw
            go_simp
            try with_reducible rfl
          try simp only [Act.put, List.getElem_toArray, List.getElem_cons_zero, List.getElem_cons_succ, List.setIfInBounds_toArray, List.set_cons_zero, List.set_cons_succ]
          refine AnyK.takeW (i := 14) (v := ?vq30) rfl (by kernel_rfl) (by kernel_rfl) (by kernel_rfl) (by kernel_rfl) (fun _ _ _ h => h) (Or.inl ⟨by kernel_rfl, ?yq30⟩) (by assumption) ?rq30
          case yq30 =>
            intro w hSw
            try dsimp only at hSw
            go_simp
            try with_reducible rfl
          try simp only [Act.put, List.getElem_toArray, List.getElem_cons_zero, List.getElem_cons_succ, List.setIfInBounds_toArray, List.set_cons_zero, List.set_cons_succ]
          refine AnyK.last (by kernel_rfl) ?_
          simp only [List.drop_succ_cons, List.drop_zero]
          clear hHeld
          have cR0 := cell_of_heap bR_1 0
          have cR1 := cell_of_heap bR_1 1
          have cR2 := cell_of_heap bR_1 2
          have cR3 := cell_of_heap bR_1 3
          have cR4 := cell_of_heap bR_1 4
          have fR := frozen_of_heap bR_1
          have lR := heap_lt bR_1
          go_wp2
          have hkz := setMany_kp (w.heap.size + 1) [.int .i64 2, .int .i64 p0, .int .i64 p1, .int .i64 p2, .int .i64 p3] w1 0
          have zs := setMany_size (w.heap.size + 1) [.int .i64 2, .int .i64 p0, .int .i64 p1, .int .i64 p2, .int .i64 p3] w1 0
          have hR := setMany_row [.int .i64 2, .int .i64 p0, .int .i64 p1, .int .i64 p2, .int .i64 p3] bR_1 rfl
          exact bodyPost_ret (results_cell_row rfl _ _ _ _ _ _ _ rfl hR Try.underlying44 rfl (by kernel_rfl)) rfl ⟨⟨2, p0, p1, p2, p3⟩, q, rfl, one_on K1 hkz (by omega), r1.keep hkz (fun b e => by omega), by omega⟩
  have hx4b : (x == 4) = false := by simpa using hx4
  by_cases hx5 : x = 5
  · subst hx5
    have cP0 := cell_of_heap bP_2 0
    have cP1 := cell_of_heap bP_2 1
    have cP2 := cell_of_heap bP_2 2
    have lP := heap_lt bP_2
    have cE0 := cell_of_heap bE_2 0
    have cE1 := cell_of_heap bE_2 1
    have cE2 := cell_of_heap bE_2 2
    have cE3 := cell_of_heap bE_2 3
    have cE4 := cell_of_heap bE_2 4
    have fE := frozen_of_heap bE_2
    have lE := heap_lt bE_2
    go_upto_region 4 with fail
    have hk3 : Kp (fun k => k = bo) w2 (w2.setCell ⟨bo, 0, none⟩ (.int .i64 2)) := (Kp.setCell (Kp.refl (fun k => k = bo) _) (.inl rfl) _)
    have bE_3 : (w2.setCell ⟨bo, 0, none⟩ (.int .i64 2)).heap[bo]? = some (.cells #[.int .i64 2, .int .i64 0, .int .i64 0, .int .i64 0, .int .i64 0] 44) := (setCell_heap bE_2 _)
    generalize (w2.setCell ⟨bo, 0, none⟩ (.int .i64 2)) = w3 at *
    have z3 : w2.heap.size ≤ w3.heap.size := hk3.size
    have bP_3 := (hk3.block _ (heap_lt bP_2) (by omega)).trans bP_2
    have bR_3 := (hk3.block _ (heap_lt bR_2) (by omega)).trans bR_2
    have K3 : One br w w3 := one_on K2 hk3 (by omega)
    have r3 := r2.keep hk3 (fun i e => by omega)
    clear cP0 cP1 cP2 lP cE0 cE1 cE2 cE3 cE4 fE lE
    clear bP_2 bR_2 bE_2 K2 r2 hk3
    have cE0 := cell_of_heap bE_3 0
    have cE1 := cell_of_heap bE_3 1
    have cE2 := cell_of_heap bE_3 2
    have cE3 := cell_of_heap bE_3 3
    have cE4 := cell_of_heap bE_3 4
    have lE := heap_lt bE_3
    go_wp2_with fail
    clear cE0 cE1 cE2 cE3 cE4 lE
    refine (CodeV.l6Fields (w := w3) (op := 2) (by omega) (by omega)).mono ?_
    rintro e w4 ⟨ks, rfl, hks, hn4⟩
    have z4 : w3.heap.size ≤ w4.heap.size := hn4.size
    have bP_4 := (hn4.block _ (heap_lt bP_3) (fun f => f)).trans bP_3
    have bR_4 := (hn4.block _ (heap_lt bR_3) (fun f => f)).trans bR_3
    have bE_4 := (hn4.block _ (heap_lt bE_3) (fun f => f)).trans bE_3
    have K4 : One br w w4 := K3.trans (hn4.mono fun _ _ f => f.elim)
    have r4 := r3.keep hn4 (fun _ f => f.elim)
    clear bP_3 bR_3 bE_3 K3 r3 hn4
    obtain ⟨kn, hkn⟩ : ∃ kn, ks.size = kn := ⟨_, rfl⟩
    have kl : kn ≤ 4 := by rw [← hkn]; rw [CodeV.ba_len hks]; exact letters4 (op := 2) (by omega) (by omega)
    clear hks
    have hn5 : New w4 (w4.alloc (.cells #[.int .i64 0, .int .i64 0, .int .i64 0, .int .i64 0] 3)) := (Kp.refl _ _).alloc _
    have y5 : w4.heap.size < (w4.alloc (.cells #[.int .i64 0, .int .i64 0, .int .i64 0, .int .i64 0] 3)).heap.size := lt_alloc _ _
    have oF_5 := four w4 3
    go_wp2_with fail
    generalize hbf : w4.heap.size = bf at oF_5 y5 ⊢
    have hbf2 : bo < bf := by have := heap_lt bE_4; omega
    generalize (w4.alloc (.cells #[.int .i64 0, .int .i64 0, .int .i64 0, .int .i64 0] 3)) = w5 at *
    have z5 : w4.heap.size ≤ w5.heap.size := hn5.size
    have bP_5 := (hn5.block _ (heap_lt bP_4) (fun f => f)).trans bP_4
    have bR_5 := (hn5.block _ (heap_lt bR_4) (fun f => f)).trans bR_4
    have bE_5 := (hn5.block _ (heap_lt bE_4) (fun f => f)).trans bE_4
    have K5 : One br w w5 := K4.trans (hn5.mono fun _ _ f => f.elim)
    have r5 := r4.keep hn5 (fun _ f => f.elim)
    clear bP_4 bR_4 bE_4 K4 r4 hn5
    have hL : LR w br p bo bf #[.slice a1 nv d1, .slice a2 0 d2, .slice a3 nb d3] (2) 0 w5 := ⟨[0, 0, 0, 0], p + 1, rfl, K5, r5, by omega, bP_5, bR_5, bE_5, oF_5⟩
    have hLh := Lib.hid hL
    clear hL K5 r5 bP_5 bR_5 bE_5 oF_5
    go_loopw [12] (fun i wr => ∃ j : Nat, j ≤ kn ∧ i = .int .i64 j ∧ LR w br p bo bf #[.slice a1 nv d1, .slice a2 0 d2, .slice a3 nb d3] (2) j wr) (fun i _ => kn - (intOf i).toNat)
    case atStart => exact ⟨0, Nat.zero_le _, rfl, hLh.out⟩
    case round =>
      obtain ⟨j, hj, rfl, ps, q, hl, K0, r0, hq, bP_0, bR_0, bE_0, hF⟩ := hrel
      clear hLh
      have oF_0 := Lib.hid hF
      have hlF := Lib.hid hl
      have zw := K0.size
      have zE := heap_lt bE_0
      have hbr2 := r0.lt
      clear hl hF
      by_cases hlt : j < kn
      · have hk : j < ks.size := by omega
        go_upto_region 11 with fail
        generalize ((ks[j].toNat : Nat) : Int) = y at *
        by_cases hy114 : y = 114
        · subst hy114
          have cP0 := cell_of_heap bP_0 0
          have cP1 := cell_of_heap bP_0 1
          have cP2 := cell_of_heap bP_0 2
          have lP := heap_lt bP_0
          go_wp2_with fail
          refine (pick wr br (q) _ r0 (by omega)).mono ?_
          rintro e w1 ⟨v, rfl, v0, v1, v2, hn1, r1⟩
          have z1 : wr.heap.size ≤ w1.heap.size := hn1.size
          have bP_1 := (hn1.block _ (heap_lt bP_0) (by omega)).trans bP_0
          have bR_1 := (hn1.block _ (heap_lt bR_0) (by omega)).trans bR_0
          have bE_1 := (hn1.block _ (heap_lt bE_0) (by omega)).trans bE_0
          have oF_1 := Lib.hid (oF_0.out.kb hn1 (fun b e => by omega))
          have K1 : One br w w1 := K0.trans hn1
          clear cP0 cP1 cP2 lP
          clear bP_0 bR_0 bE_0 oF_0 K0 r0 hn1
          clear v1 v2
          obtain ⟨-, g, ge, gc, gf⟩ := own_cells oF_1.out (by rw [hlF.out]; decide)
          cases ge
          obtain ⟨u, gcj⟩ : ∃ u : Int, w1.cell? ⟨bf, j, none⟩ = some (.int .i64 u) := ⟨_, gc j (by have := hlF.out; omega)⟩
          have gfj := gf j
          have gsh := Lib.hid (OwnF.set1 (enc := encI) (xs := ps) (show OwnF 1 encI w1 bf 3 (.slice (some ⟨bf, 0, none⟩) ps.length 4) ps by rw [hlF.out]; exact oF_1.out) j (by have := hlF.out; omega) (v))
          have gl : (ps.set j (v)).length = 4 := by rw [List.length_set]; exact hlF.out
          clear gc gf
          have kz : Kp (fun b => b = bf) w1 (w1.setCell ⟨bf, j, none⟩ (.int .i64 (v))) := (Kp.refl (fun b => b = bf) _).setCell (.inl rfl) _
          have hlF2 := hlF.out
          have hL : LR w br p bo bf #[.slice a1 nv d1, .slice a2 0 d2, .slice a3 nb d3] (2) (j + 1) (w1.setCell ⟨bf, j, none⟩ (.int .i64 (v))) := ⟨ps.set j (v), q + 1, gl, one_on K1 kz (by omega), r1.keep kz (fun b e => by omega), by omega, (kz.block _ (heap_lt bP_1) (by omega)).trans bP_1, (kz.block _ (heap_lt bR_1) (by omega)).trans bR_1, (kz.block _ (heap_lt bE_1) (by omega)).trans bE_1, by have := gsh.out; rw [hlF2] at this; exact this⟩
          have hLh := Lib.hid hL
          clear hL kz K1 r1 bP_1 bR_1 bE_1 oF_1 gl gsh hlF hlF2
          go_wp2
          go_roundw
          case rel => exact ⟨j + 1, by omega, by go_num, hLh.out⟩
          case measure => simp [intOf]; omega
        have hz114 : (y == 114) = false := by simpa using hy114
        by_cases hy99 : y = 99
        · subst hy99
          have cP0 := cell_of_heap bP_0 0
          have cP1 := cell_of_heap bP_0 1
          have cP2 := cell_of_heap bP_0 2
          have lP := heap_lt bP_0
          go_wp2_with fail
          refine (DrawV.l3Value wr br (q) r0 (by omega)).mono ?_
          rintro e w1 ⟨v, rfl, ⟨v0, v1⟩, hn1, r1⟩
          have z1 : wr.heap.size ≤ w1.heap.size := hn1.size
          have bP_1 := (hn1.block _ (heap_lt bP_0) (by omega)).trans bP_0
          have bR_1 := (hn1.block _ (heap_lt bR_0) (by omega)).trans bR_0
          have bE_1 := (hn1.block _ (heap_lt bE_0) (by omega)).trans bE_0
          have oF_1 := Lib.hid (oF_0.out.kb hn1 (fun b e => by omega))
          have K1 : One br w w1 := K0.trans hn1
          clear cP0 cP1 cP2 lP
          clear bP_0 bR_0 bE_0 oF_0 K0 r0 hn1
          obtain ⟨-, g, ge, gc, gf⟩ := own_cells oF_1.out (by rw [hlF.out]; decide)
          cases ge
          obtain ⟨u, gcj⟩ : ∃ u : Int, w1.cell? ⟨bf, j, none⟩ = some (.int .i64 u) := ⟨_, gc j (by have := hlF.out; omega)⟩
          have gfj := gf j
          have gsh := Lib.hid (OwnF.set1 (enc := encI) (xs := ps) (show OwnF 1 encI w1 bf 3 (.slice (some ⟨bf, 0, none⟩) ps.length 4) ps by rw [hlF.out]; exact oF_1.out) j (by have := hlF.out; omega) (v))
          have gl : (ps.set j (v)).length = 4 := by rw [List.length_set]; exact hlF.out
          clear gc gf
          have kz : Kp (fun b => b = bf) w1 (w1.setCell ⟨bf, j, none⟩ (.int .i64 (v))) := (Kp.refl (fun b => b = bf) _).setCell (.inl rfl) _
          have hlF2 := hlF.out
          have hL : LR w br p bo bf #[.slice a1 nv d1, .slice a2 0 d2, .slice a3 nb d3] (2) (j + 1) (w1.setCell ⟨bf, j, none⟩ (.int .i64 (v))) := ⟨ps.set j (v), q + 1, gl, one_on K1 kz (by omega), r1.keep kz (fun b e => by omega), by omega, (kz.block _ (heap_lt bP_1) (by omega)).trans bP_1, (kz.block _ (heap_lt bR_1) (by omega)).trans bR_1, (kz.block _ (heap_lt bE_1) (by omega)).trans bE_1, by have := gsh.out; rw [hlF2] at this; exact this⟩
          have hLh := Lib.hid hL
          clear hL kz K1 r1 bP_1 bR_1 bE_1 oF_1 gl gsh hlF hlF2
          go_wp2
          go_roundw
          case rel => exact ⟨j + 1, by omega, by go_num, hLh.out⟩
          case measure => simp [intOf]; omega
        have hz99 : (y == 99) = false := by simpa using hy99
        by_cases hy118 : y = 118
        · subst hy118
          have cP0 := cell_of_heap bP_0 0
          have cP1 := cell_of_heap bP_0 1
          have cP2 := cell_of_heap bP_0 2
          have lP := heap_lt bP_0
          go_wp2_with fail
          refine (pick wr br (q) _ r0 (by omega)).mono ?_
          rintro e w1 ⟨v, rfl, v0, v1, v2, hn1, r1⟩
          have z1 : wr.heap.size ≤ w1.heap.size := hn1.size
          have bP_1 := (hn1.block _ (heap_lt bP_0) (by omega)).trans bP_0
          have bR_1 := (hn1.block _ (heap_lt bR_0) (by omega)).trans bR_0
          have bE_1 := (hn1.block _ (heap_lt bE_0) (by omega)).trans bE_0
          have oF_1 := Lib.hid (oF_0.out.kb hn1 (fun b e => by omega))
          have K1 : One br w w1 := K0.trans hn1
          clear cP0 cP1 cP2 lP
          clear bP_0 bR_0 bE_0 oF_0 K0 r0 hn1
          clear v1 v2
          obtain ⟨-, g, ge, gc, gf⟩ := own_cells oF_1.out (by rw [hlF.out]; decide)
          cases ge
          obtain ⟨u, gcj⟩ : ∃ u : Int, w1.cell? ⟨bf, j, none⟩ = some (.int .i64 u) := ⟨_, gc j (by have := hlF.out; omega)⟩
          have gfj := gf j
          have gsh := Lib.hid (OwnF.set1 (enc := encI) (xs := ps) (show OwnF 1 encI w1 bf 3 (.slice (some ⟨bf, 0, none⟩) ps.length 4) ps by rw [hlF.out]; exact oF_1.out) j (by have := hlF.out; omega) (v))
          have gl : (ps.set j (v)).length = 4 := by rw [List.length_set]; exact hlF.out
          clear gc gf
          have kz : Kp (fun b => b = bf) w1 (w1.setCell ⟨bf, j, none⟩ (.int .i64 (v))) := (Kp.refl (fun b => b = bf) _).setCell (.inl rfl) _
          have hlF2 := hlF.out
          have hL : LR w br p bo bf #[.slice a1 nv d1, .slice a2 0 d2, .slice a3 nb d3] (2) (j + 1) (w1.setCell ⟨bf, j, none⟩ (.int .i64 (v))) := ⟨ps.set j (v), q + 1, gl, one_on K1 kz (by omega), r1.keep kz (fun b e => by omega), by omega, (kz.block _ (heap_lt bP_1) (by omega)).trans bP_1, (kz.block _ (heap_lt bR_1) (by omega)).trans bR_1, (kz.block _ (heap_lt bE_1) (by omega)).trans bE_1, by have := gsh.out; rw [hlF2] at this; exact this⟩
          have hLh := Lib.hid hL
          clear hL kz K1 r1 bP_1 bR_1 bE_1 oF_1 gl gsh hlF hlF2
          go_wp2
          go_roundw
          case rel => exact ⟨j + 1, by omega, by go_num, hLh.out⟩
          case measure => simp [intOf]; omega
        have hz118 : (y == 118) = false := by simpa using hy118
        by_cases hy97 : y = 97
        · subst hy97
          have cP0 := cell_of_heap bP_0 0
          have cP1 := cell_of_heap bP_0 1
          have cP2 := cell_of_heap bP_0 2
          have lP := heap_lt bP_0
          go_wp2_with fail
          refine (pick wr br (q) _ r0 (by omega)).mono ?_
          rintro e w1 ⟨v, rfl, v0, v1, v2, hn1, r1⟩
          have z1 : wr.heap.size ≤ w1.heap.size := hn1.size
          have bP_1 := (hn1.block _ (heap_lt bP_0) (by omega)).trans bP_0
          have bR_1 := (hn1.block _ (heap_lt bR_0) (by omega)).trans bR_0
          have bE_1 := (hn1.block _ (heap_lt bE_0) (by omega)).trans bE_0
          have oF_1 := Lib.hid (oF_0.out.kb hn1 (fun b e => by omega))
          have K1 : One br w w1 := K0.trans hn1
          clear cP0 cP1 cP2 lP
          clear bP_0 bR_0 bE_0 oF_0 K0 r0 hn1
          clear v1 v2
          obtain ⟨-, g, ge, gc, gf⟩ := own_cells oF_1.out (by rw [hlF.out]; decide)
          cases ge
          obtain ⟨u, gcj⟩ : ∃ u : Int, w1.cell? ⟨bf, j, none⟩ = some (.int .i64 u) := ⟨_, gc j (by have := hlF.out; omega)⟩
          have gfj := gf j
          have gsh := Lib.hid (OwnF.set1 (enc := encI) (xs := ps) (show OwnF 1 encI w1 bf 3 (.slice (some ⟨bf, 0, none⟩) ps.length 4) ps by rw [hlF.out]; exact oF_1.out) j (by have := hlF.out; omega) (v))
          have gl : (ps.set j (v)).length = 4 := by rw [List.length_set]; exact hlF.out
          clear gc gf
          have kz : Kp (fun b => b = bf) w1 (w1.setCell ⟨bf, j, none⟩ (.int .i64 (v))) := (Kp.refl (fun b => b = bf) _).setCell (.inl rfl) _
          have hlF2 := hlF.out
          have hL : LR w br p bo bf #[.slice a1 nv d1, .slice a2 0 d2, .slice a3 nb d3] (2) (j + 1) (w1.setCell ⟨bf, j, none⟩ (.int .i64 (v))) := ⟨ps.set j (v), q + 1, gl, one_on K1 kz (by omega), r1.keep kz (fun b e => by omega), by omega, (kz.block _ (heap_lt bP_1) (by omega)).trans bP_1, (kz.block _ (heap_lt bR_1) (by omega)).trans bR_1, (kz.block _ (heap_lt bE_1) (by omega)).trans bE_1, by have := gsh.out; rw [hlF2] at this; exact this⟩
          have hLh := Lib.hid hL
          clear hL kz K1 r1 bP_1 bR_1 bE_1 oF_1 gl gsh hlF hlF2
          go_wp2
          go_roundw
          case rel => exact ⟨j + 1, by omega, by go_num, hLh.out⟩
          case measure => simp [intOf]; omega
        have hz97 : (y == 97) = false := by simpa using hy97
        by_cases hy111 : y = 111
        · subst hy111
          have cP0 := cell_of_heap bP_0 0
          have cP1 := cell_of_heap bP_0 1
          have cP2 := cell_of_heap bP_0 2
          have lP := heap_lt bP_0
          go_wp2_with fail
          refine (pick wr br (q) _ r0 (by omega)).mono ?_
          rintro e w1 ⟨v, rfl, v0, v1, v2, hn1, r1⟩
          have z1 : wr.heap.size ≤ w1.heap.size := hn1.size
          have bP_1 := (hn1.block _ (heap_lt bP_0) (by omega)).trans bP_0
          have bR_1 := (hn1.block _ (heap_lt bR_0) (by omega)).trans bR_0
          have bE_1 := (hn1.block _ (heap_lt bE_0) (by omega)).trans bE_0
          have oF_1 := Lib.hid (oF_0.out.kb hn1 (fun b e => by omega))
          have K1 : One br w w1 := K0.trans hn1
          clear cP0 cP1 cP2 lP
          clear bP_0 bR_0 bE_0 oF_0 K0 r0 hn1
          have v7 : v < 7 := v1 (by omega)
          have hwr : IntKind.i64.wrap (4 + v) = 4 + v := IntWalk.i64_in _ (by omega)
          clear v1 v2
          obtain ⟨-, g, ge, gc, gf⟩ := own_cells oF_1.out (by rw [hlF.out]; decide)
          cases ge
          obtain ⟨u, gcj⟩ : ∃ u : Int, w1.cell? ⟨bf, j, none⟩ = some (.int .i64 u) := ⟨_, gc j (by have := hlF.out; omega)⟩
          have gfj := gf j
          have gsh := Lib.hid (OwnF.set1 (enc := encI) (xs := ps) (show OwnF 1 encI w1 bf 3 (.slice (some ⟨bf, 0, none⟩) ps.length 4) ps by rw [hlF.out]; exact oF_1.out) j (by have := hlF.out; omega) (4 + v))
          have gl : (ps.set j (4 + v)).length = 4 := by rw [List.length_set]; exact hlF.out
          clear gc gf
          have kz : Kp (fun b => b = bf) w1 (w1.setCell ⟨bf, j, none⟩ (.int .i64 (4 + v))) := (Kp.refl (fun b => b = bf) _).setCell (.inl rfl) _
          have hlF2 := hlF.out
          have hL : LR w br p bo bf #[.slice a1 nv d1, .slice a2 0 d2, .slice a3 nb d3] (2) (j + 1) (w1.setCell ⟨bf, j, none⟩ (.int .i64 (4 + v))) := ⟨ps.set j (4 + v), q + 1, gl, one_on K1 kz (by omega), r1.keep kz (fun b e => by omega), by omega, (kz.block _ (heap_lt bP_1) (by omega)).trans bP_1, (kz.block _ (heap_lt bR_1) (by omega)).trans bR_1, (kz.block _ (heap_lt bE_1) (by omega)).trans bE_1, by have := gsh.out; rw [hlF2] at this; exact this⟩
          have hLh := Lib.hid hL
          clear hL kz K1 r1 bP_1 bR_1 bE_1 oF_1 gl gsh hlF hlF2
          go_wp2
          go_roundw
          case rel => exact ⟨j + 1, by omega, by go_num, hLh.out⟩
          case measure => simp [intOf]; omega
        have hz111 : (y == 111) = false := by simpa using hy111
        have hw1 : IntKind.i64.wrap ((at_ : Int) + 1) = (at_ : Int) + 1 := IntWalk.i64_in _ (by omega)
        have hw2 : IntKind.i64.wrap ((n : Int) - at_) = (n : Int) - at_ := IntWalk.i64_in _ (by omega)
        have hw3 : IntKind.i64.wrap ((n : Int) - at_ - 1) = (n : Int) - at_ - 1 := IntWalk.i64_in _ (by omega)
        have cP0 := cell_of_heap bP_0 0
        have cP1 := cell_of_heap bP_0 1
        have cP2 := cell_of_heap bP_0 2
        have lP := heap_lt bP_0
        go_wp2_with fail
        refine (pick wr br (q) _ r0 (by omega)).mono ?_
        rintro e w1 ⟨v, rfl, v0, v1, v2, hn1, r1⟩
        have z1 : wr.heap.size ≤ w1.heap.size := hn1.size
        have bP_1 := (hn1.block _ (heap_lt bP_0) (by omega)).trans bP_0
        have bR_1 := (hn1.block _ (heap_lt bR_0) (by omega)).trans bR_0
        have bE_1 := (hn1.block _ (heap_lt bE_0) (by omega)).trans bE_0
        have oF_1 := Lib.hid (oF_0.out.kb hn1 (fun b e => by omega))
        have K1 : One br w w1 := K0.trans hn1
        clear cP0 cP1 cP2 lP
        clear bP_0 bR_0 bE_0 oF_0 K0 r0 hn1
        have v8 : v ≤ 1000 := by
          by_cases hz : 1 ≤ (n : Int) - at_ - 1
          · have := v1 hz; omega
          · have := v2 (by omega); omega
        have hwr : IntKind.i64.wrap ((at_ : Int) + 1 + v) = (at_ : Int) + 1 + v := IntWalk.i64_in _ (by omega)
        clear v1 v2
        obtain ⟨-, g, ge, gc, gf⟩ := own_cells oF_1.out (by rw [hlF.out]; decide)
        cases ge
        obtain ⟨u, gcj⟩ : ∃ u : Int, w1.cell? ⟨bf, j, none⟩ = some (.int .i64 u) := ⟨_, gc j (by have := hlF.out; omega)⟩
        have gfj := gf j
        have gsh := Lib.hid (OwnF.set1 (enc := encI) (xs := ps) (show OwnF 1 encI w1 bf 3 (.slice (some ⟨bf, 0, none⟩) ps.length 4) ps by rw [hlF.out]; exact oF_1.out) j (by have := hlF.out; omega) ((at_ : Int) + 1 + v))
        have gl : (ps.set j ((at_ : Int) + 1 + v)).length = 4 := by rw [List.length_set]; exact hlF.out
        clear gc gf
        have kz : Kp (fun b => b = bf) w1 (w1.setCell ⟨bf, j, none⟩ (.int .i64 ((at_ : Int) + 1 + v))) := (Kp.refl (fun b => b = bf) _).setCell (.inl rfl) _
        have hlF2 := hlF.out
        have hL : LR w br p bo bf #[.slice a1 nv d1, .slice a2 0 d2, .slice a3 nb d3] (2) (j + 1) (w1.setCell ⟨bf, j, none⟩ (.int .i64 ((at_ : Int) + 1 + v))) := ⟨ps.set j ((at_ : Int) + 1 + v), q + 1, gl, one_on K1 kz (by omega), r1.keep kz (fun b e => by omega), by omega, (kz.block _ (heap_lt bP_1) (by omega)).trans bP_1, (kz.block _ (heap_lt bR_1) (by omega)).trans bR_1, (kz.block _ (heap_lt bE_1) (by omega)).trans bE_1, by have := gsh.out; rw [hlF2] at this; exact this⟩
        have hLh := Lib.hid hL
        clear hL kz K1 r1 bP_1 bR_1 bE_1 oF_1 gl gsh hlF hlF2
        go_wp2
        go_roundw
        case rel => exact ⟨j + 1, by omega, by go_num, hLh.out⟩
        case measure => simp [intOf]; omega
      · have hje : j = kn := by omega
        subst hje
        clear hlt hj
        have hl4 := hlF.out
        match ps, hl4 with
        | [p0, p1, p2, p3], _ =>
          obtain ⟨-, g, ge, gc, gf⟩ := own_cells oF_0.out (by simp)
          cases ge
          have g0 : wr.cell? ⟨bf, 0, none⟩ = some (.int .i64 p0) := gc 0 (by simp)
          have g1 : wr.cell? ⟨bf, 1, none⟩ = some (.int .i64 p1) := gc 1 (by simp)
          have g2 : wr.cell? ⟨bf, 2, none⟩ = some (.int .i64 p2) := gc 2 (by simp)
          have g3 : wr.cell? ⟨bf, 3, none⟩ = some (.int .i64 p3) := gc 3 (by simp)
          clear gc gf oF_0 hlF
          have cE0 := cell_of_heap bE_0 0
          have lE := heap_lt bE_0
          have cR0 := cell_of_heap bR_0 0
          have cR1 := cell_of_heap bR_0 1
          have cR2 := cell_of_heap bR_0 2
          have cR3 := cell_of_heap bR_0 3
          have cR4 := cell_of_heap bR_0 4
          have fR := frozen_of_heap bR_0
          have lR := heap_lt bR_0
          go_wp2_with fail
          refine wp_region_tail (k := 15) (S := fun w' => w'.cell? ⟨bo, 0, none⟩ = some (.int .i64 2) ∧ w'.cell? ⟨bf, 0, none⟩ = some (.int .i64 p0) ∧ w'.cell? ⟨bf, 1, none⟩ = some (.int .i64 p1) ∧ w'.cell? ⟨bf, 2, none⟩ = some (.int .i64 p2) ∧ w'.cell? ⟨bf, 3, none⟩ = some (.int .i64 p3)) (by kernel_rfl) ?_ (fun hHeld => ?_)
          · exact ⟨cE0, g0, g1, g2, g3⟩
          clear cE0 lE cR0 cR1 cR2 cR3 cR4 fR lR
          have hn1 : New wr wr.drew := (Kp.refl _ _).drew
          generalize wr.drew = w1 at *
          have z1 : wr.heap.size ≤ w1.heap.size := hn1.size
          have bR_1 := (hn1.block _ (heap_lt bR_0) (fun f => f)).trans bR_0
          have bE_1 := (hn1.block _ (heap_lt bE_0) (fun f => f)).trans bE_0
          have K1 : One br w w1 := K0.trans (hn1.mono fun _ _ f => f.elim)
          have r1 := r0.keep hn1 (fun _ f => f.elim)
          clear bR_0 bE_0 K0 r0 hn1
          refine AnyK.takeW (i := 0) (v := ?vq31) rfl (by kernel_rfl) (by kernel_rfl) (by kernel_rfl) (by kernel_rfl) (fun _ _ _ h => h) (Or.inl ⟨by kernel_rfl, ?yq31⟩) (by assumption) ?rq31
          case yq31 =>
            intro w hSw
            try dsimp only at hSw
            go_simp
            try with_reducible rfl
          try simp only [Act.put, List.getElem_toArray, List.getElem_cons_zero, List.setIfInBounds_toArray, List.set_cons_zero, List.set_cons_succ]
          refine AnyK.take (i := 1) (v := ?vq32) rfl (by kernel_rfl) (by kernel_rfl) (by kernel_rfl) (by kernel_rfl) (fun _ _ _ h => h) (Or.inl ⟨by kernel_rfl, ?yq32⟩) (by assumption) ?rq32
          case yq32 =>
            intro w hSw
            try dsimp only at hSw
            go_simp
            try with_reducible rfl
          try simp only [Act.put, List.getElem_toArray, List.getElem_cons_zero, List.getElem_cons_succ, List.setIfInBounds_toArray, List.set_cons_zero, List.set_cons_succ]
          refine AnyK.takeW (i := 2) (v := ?vq33) rfl (by kernel_rfl) (by kernel_rfl) (by kernel_rfl) (by kernel_rfl) (fun _ _ _ h => h) (Or.inl ⟨by kernel_rfl, ?yq33⟩) (by assumption) ?rq33
          case yq33 =>
            intro w hSw
            try dsimp only at hSw
            go_simp
            try with_reducible rfl
          try simp only [Act.put, List.getElem_toArray, List.getElem_cons_zero, List.getElem_cons_succ, List.setIfInBounds_toArray, List.set_cons_zero, List.set_cons_succ]
          refine AnyK.takeW (i := 3) (v := ?vq34) rfl (by kernel_rfl) (by kernel_rfl) (by kernel_rfl) (by kernel_rfl) (fun _ _ _ h => h) (Or.inl ⟨by kernel_rfl, ?yq34⟩) (by assumption) ?rq34
          case yq34 =>
            intro w hSw
            try dsimp only at hSw
            go_simp
            try with_reducible rfl
          try simp only [Act.put, List.getElem_toArray, List.getElem_cons_zero, List.getElem_cons_succ, List.setIfInBounds_toArray, List.set_cons_zero, List.set_cons_succ]
          refine AnyK.take (i := 4) (v := ?vq35) rfl (by kernel_rfl) (by kernel_rfl) (by kernel_rfl) (by kernel_rfl) (fun _ _ _ h => h) (Or.inl ⟨by kernel_rfl, ?yq35⟩) (by assumption) ?rq35
          case yq35 =>
            intro w hSw
            try dsimp only at hSw
            go_simp
            try with_reducible rfl
          try simp only [Act.put, List.getElem_toArray, List.getElem_cons_zero, List.getElem_cons_succ, List.setIfInBounds_toArray, List.set_cons_zero, List.set_cons_succ]
          refine AnyK.takeW (i := 5) (v := ?vq36) rfl (by kernel_rfl) (by kernel_rfl) (by kernel_rfl) (by kernel_rfl) (fun _ _ _ h => h) (Or.inl ⟨by kernel_rfl, ?yq36⟩) (by assumption) ?rq36
          case yq36 =>
            intro w hSw
            try dsimp only at hSw
            go_simp
            try with_reducible rfl
          try simp only [Act.put, List.getElem_toArray, List.getElem_cons_zero, List.getElem_cons_succ, List.setIfInBounds_toArray, List.set_cons_zero, List.set_cons_succ]
          refine AnyK.takeW (i := 6) (v := ?vq37) rfl (by kernel_rfl) (by kernel_rfl) (by kernel_rfl) (by kernel_rfl) (fun _ _ _ h => h) (Or.inl ⟨by kernel_rfl, ?yq37⟩) (by assumption) ?rq37
          case yq37 =>
            intro w hSw
            try dsimp only at hSw
            go_simp
            try with_reducible rfl
          try simp only [Act.put, List.getElem_toArray, List.getElem_cons_zero, List.getElem_cons_succ, List.setIfInBounds_toArray, List.set_cons_zero, List.set_cons_succ]
          refine AnyK.take (i := 7) (v := ?vq38) rfl (by kernel_rfl) (by kernel_rfl) (by kernel_rfl) (by kernel_rfl) (fun _ _ _ h => h) (Or.inl ⟨by kernel_rfl, ?yq38⟩) (by assumption) ?rq38
          case yq38 =>
            intro w hSw
            try dsimp only at hSw
            go_simp
            try with_reducible rfl
          try simp only [Act.put, List.getElem_toArray, List.getElem_cons_zero, List.getElem_cons_succ, List.setIfInBounds_toArray, List.set_cons_zero, List.set_cons_succ]
          refine AnyK.takeW (i := 8) (v := ?vq39) rfl (by kernel_rfl) (by kernel_rfl) (by kernel_rfl) (by kernel_rfl) (fun _ _ _ h => h) (Or.inl ⟨by kernel_rfl, ?yq39⟩) (by assumption) ?rq39
          case yq39 =>
            intro w hSw
            try dsimp only at hSw
            go_simp
            try with_reducible rfl
          try simp only [Act.put, List.getElem_toArray, List.getElem_cons_zero, List.getElem_cons_succ, List.setIfInBounds_toArray, List.set_cons_zero, List.set_cons_succ]
          refine AnyK.takeW (i := 9) (v := ?vq40) rfl (by kernel_rfl) (by kernel_rfl) (by kernel_rfl) (by kernel_rfl) (fun _ _ _ h => h) (Or.inl ⟨by kernel_rfl, ?yq40⟩) (by assumption) ?rq40
          case yq40 =>
            intro w hSw
            try dsimp only at hSw
            go_simp
            try with_reducible rfl
          try simp only [Act.put, List.getElem_toArray, List.getElem_cons_zero, List.getElem_cons_succ, List.setIfInBounds_toArray, List.set_cons_zero, List.set_cons_succ]
          refine AnyK.take (i := 10) (v := ?vq41) rfl (by kernel_rfl) (by kernel_rfl) (by kernel_rfl) (by kernel_rfl) (fun _ _ _ h => h) (Or.inl ⟨by kernel_rfl, ?yq41⟩) (by assumption) ?rq41
          case yq41 =>
            intro w hSw
            try dsimp only at hSw
            go_simp
            try with_reducible rfl
          try simp only [Act.put, List.getElem_toArray, List.getElem_cons_zero, List.getElem_cons_succ, List.setIfInBounds_toArray, List.set_cons_zero, List.set_cons_succ]
          refine AnyK.takeW (i := 11) (v := ?vq42) rfl (by kernel_rfl) (by kernel_rfl) (by kernel_rfl) (by kernel_rfl) (fun _ _ _ h => h) (Or.inl ⟨by kernel_rfl, ?yq42⟩) (by assumption) ?rq42
          case yq42 =>
            intro w hSw
            try dsimp only at hSw
            go_simp
            try with_reducible rfl
          try simp only [Act.put, List.getElem_toArray, List.getElem_cons_zero, List.getElem_cons_succ, List.setIfInBounds_toArray, List.set_cons_zero, List.set_cons_succ]
          refine AnyK.takeW (i := 12) (v := ?vq43) rfl (by kernel_rfl) (by kernel_rfl) (by kernel_rfl) (by kernel_rfl) (fun _ _ _ h => h) (Or.inl ⟨by kernel_rfl, ?yq43⟩) (by assumption) ?rq43
          case yq43 =>
            intro w hSw
            try dsimp only at hSw
            go_simp
            try with_reducible rfl
          try simp only [Act.put, List.getElem_toArray, List.getElem_cons_zero, List.getElem_cons_succ, List.setIfInBounds_toArray, List.set_cons_zero, List.set_cons_succ]
          refine AnyK.take (i := 13) (v := ?vq44) rfl (by kernel_rfl) (by kernel_rfl) (by kernel_rfl) (by kernel_rfl) (fun _ _ _ h => h) (Or.inl ⟨by kernel_rfl, ?yq44⟩) (by assumption) ?rq44
          case yq44 =>
            intro w hSw
            try dsimp only at hSw
            go_simp
            try with_reducible rfl
          try simp only [Act.put, List.getElem_toArray, List.getElem_cons_zero, List.getElem_cons_succ, List.setIfInBounds_toArray, List.set_cons_zero, List.set_cons_succ]
          refine AnyK.takeW (i := 14) (v := ?vq45) rfl (by kernel_rfl) (by kernel_rfl) (by kernel_rfl) (by kernel_rfl) (fun _ _ _ h => h) (Or.inl ⟨by kernel_rfl, ?yq45⟩) (by assumption) ?rq45
          case yq45 =>
            intro w hSw
            try dsimp only at hSw
            go_simp
            try with_reducible rfl
          try simp only [Act.put, List.getElem_toArray, List.getElem_cons_zero, List.getElem_cons_succ, List.setIfInBounds_toArray, List.set_cons_zero, List.set_cons_succ]
          refine AnyK.last (by kernel_rfl) ?_
          simp only [List.drop_succ_cons, List.drop_zero]
          clear hHeld
          have cR0 := cell_of_heap bR_1 0
          have cR1 := cell_of_heap bR_1 1
          have cR2 := cell_of_heap bR_1 2
          have cR3 := cell_of_heap bR_1 3
          have cR4 := cell_of_heap bR_1 4
          have fR := frozen_of_heap bR_1
          have lR := heap_lt bR_1
          go_wp2
          have hkz := setMany_kp (w.heap.size + 1) [.int .i64 2, .int .i64 p0, .int .i64 p1, .int .i64 p2, .int .i64 p3] w1 0
          have zs := setMany_size (w.heap.size + 1) [.int .i64 2, .int .i64 p0, .int .i64 p1, .int .i64 p2, .int .i64 p3] w1 0
          have hR := setMany_row [.int .i64 2, .int .i64 p0, .int .i64 p1, .int .i64 p2, .int .i64 p3] bR_1 rfl
          exact bodyPost_ret (results_cell_row rfl _ _ _ _ _ _ _ rfl hR Try.underlying44 rfl (by kernel_rfl)) rfl ⟨⟨2, p0, p1, p2, p3⟩, q, rfl, one_on K1 hkz (by omega), r1.keep hkz (fun b e => by omega), by omega⟩
  have hx5b : (x == 5) = false := by simpa using hx5
  skip
  have cP0 := cell_of_heap bP_2 0
  have cP1 := cell_of_heap bP_2 1
  have cP2 := cell_of_heap bP_2 2
  have lP := heap_lt bP_2
  have cE0 := cell_of_heap bE_2 0
  have cE1 := cell_of_heap bE_2 1
  have cE2 := cell_of_heap bE_2 2
  have cE3 := cell_of_heap bE_2 3
  have cE4 := cell_of_heap bE_2 4
  have fE := frozen_of_heap bE_2
  have lE := heap_lt bE_2
  go_wp2_with fail
  clear cP0 cP1 cP2 lP cE0 cE1 cE2 cE3 cE4 fE lE
  refine (CodeV.l6Fields (w := w2) (op := x) (by omega) (by omega)).mono ?_
  rintro e w3 ⟨ks, rfl, hks, hn3⟩
  have z3 : w2.heap.size ≤ w3.heap.size := hn3.size
  have bP_3 := (hn3.block _ (heap_lt bP_2) (fun f => f)).trans bP_2
  have bR_3 := (hn3.block _ (heap_lt bR_2) (fun f => f)).trans bR_2
  have bE_3 := (hn3.block _ (heap_lt bE_2) (fun f => f)).trans bE_2
  have K3 : One br w w3 := K2.trans (hn3.mono fun _ _ f => f.elim)
  have r3 := r2.keep hn3 (fun _ f => f.elim)
  clear bP_2 bR_2 bE_2 K2 r2 hn3
  obtain ⟨kn, hkn⟩ : ∃ kn, ks.size = kn := ⟨_, rfl⟩
  have kl : kn ≤ 4 := by rw [← hkn]; rw [CodeV.ba_len hks]; exact letters4 (op := x) (by omega) (by omega)
  clear hks
  have hn4 : New w3 (w3.alloc (.cells #[.int .i64 0, .int .i64 0, .int .i64 0, .int .i64 0] 3)) := (Kp.refl _ _).alloc _
  have y4 : w3.heap.size < (w3.alloc (.cells #[.int .i64 0, .int .i64 0, .int .i64 0, .int .i64 0] 3)).heap.size := lt_alloc _ _
  have oF_4 := four w3 3
  go_wp2_with fail
  generalize hbf : w3.heap.size = bf at oF_4 y4 ⊢
  have hbf2 : bo < bf := by have := heap_lt bE_3; omega
  generalize (w3.alloc (.cells #[.int .i64 0, .int .i64 0, .int .i64 0, .int .i64 0] 3)) = w4 at *
  have z4 : w3.heap.size ≤ w4.heap.size := hn4.size
  have bP_4 := (hn4.block _ (heap_lt bP_3) (fun f => f)).trans bP_3
  have bR_4 := (hn4.block _ (heap_lt bR_3) (fun f => f)).trans bR_3
  have bE_4 := (hn4.block _ (heap_lt bE_3) (fun f => f)).trans bE_3
  have K4 : One br w w4 := K3.trans (hn4.mono fun _ _ f => f.elim)
  have r4 := r3.keep hn4 (fun _ f => f.elim)
  clear bP_3 bR_3 bE_3 K3 r3 hn4
  have hL : LR w br p bo bf #[.slice a1 nv d1, .slice a2 0 d2, .slice a3 nb d3] (x) 0 w4 := ⟨[0, 0, 0, 0], p + 1, rfl, K4, r4, by omega, bP_4, bR_4, bE_4, oF_4⟩
  have hLh := Lib.hid hL
  clear hL K4 r4 bP_4 bR_4 bE_4 oF_4
  go_loopw [12] (fun i wr => ∃ j : Nat, j ≤ kn ∧ i = .int .i64 j ∧ LR w br p bo bf #[.slice a1 nv d1, .slice a2 0 d2, .slice a3 nb d3] (x) j wr) (fun i _ => kn - (intOf i).toNat)
  case atStart => exact ⟨0, Nat.zero_le _, rfl, hLh.out⟩
  case round =>
    obtain ⟨j, hj, rfl, ps, q, hl, K0, r0, hq, bP_0, bR_0, bE_0, hF⟩ := hrel
    clear hLh
    have oF_0 := Lib.hid hF
    have hlF := Lib.hid hl
    have zw := K0.size
    have zE := heap_lt bE_0
    have hbr2 := r0.lt
    clear hl hF
    by_cases hlt : j < kn
    · have hk : j < ks.size := by omega
      go_upto_region 11 with fail
      generalize ((ks[j].toNat : Nat) : Int) = y at *
      by_cases hy114 : y = 114
      · subst hy114
        have cP0 := cell_of_heap bP_0 0
        have cP1 := cell_of_heap bP_0 1
        have cP2 := cell_of_heap bP_0 2
        have lP := heap_lt bP_0
        go_wp2_with fail
        refine (pick wr br (q) _ r0 (by omega)).mono ?_
        rintro e w1 ⟨v, rfl, v0, v1, v2, hn1, r1⟩
        have z1 : wr.heap.size ≤ w1.heap.size := hn1.size
        have bP_1 := (hn1.block _ (heap_lt bP_0) (by omega)).trans bP_0
        have bR_1 := (hn1.block _ (heap_lt bR_0) (by omega)).trans bR_0
        have bE_1 := (hn1.block _ (heap_lt bE_0) (by omega)).trans bE_0
        have oF_1 := Lib.hid (oF_0.out.kb hn1 (fun b e => by omega))
        have K1 : One br w w1 := K0.trans hn1
        clear cP0 cP1 cP2 lP
        clear bP_0 bR_0 bE_0 oF_0 K0 r0 hn1
        clear v1 v2
        obtain ⟨-, g, ge, gc, gf⟩ := own_cells oF_1.out (by rw [hlF.out]; decide)
        cases ge
        obtain ⟨u, gcj⟩ : ∃ u : Int, w1.cell? ⟨bf, j, none⟩ = some (.int .i64 u) := ⟨_, gc j (by have := hlF.out; omega)⟩
        have gfj := gf j
        have gsh := Lib.hid (OwnF.set1 (enc := encI) (xs := ps) (show OwnF 1 encI w1 bf 3 (.slice (some ⟨bf, 0, none⟩) ps.length 4) ps by rw [hlF.out]; exact oF_1.out) j (by have := hlF.out; omega) (v))
        have gl : (ps.set j (v)).length = 4 := by rw [List.length_set]; exact hlF.out
        clear gc gf
        have kz : Kp (fun b => b = bf) w1 (w1.setCell ⟨bf, j, none⟩ (.int .i64 (v))) := (Kp.refl (fun b => b = bf) _).setCell (.inl rfl) _
        have hlF2 := hlF.out
        have hL : LR w br p bo bf #[.slice a1 nv d1, .slice a2 0 d2, .slice a3 nb d3] (x) (j + 1) (w1.setCell ⟨bf, j, none⟩ (.int .i64 (v))) := ⟨ps.set j (v), q + 1, gl, one_on K1 kz (by omega), r1.keep kz (fun b e => by omega), by omega, (kz.block _ (heap_lt bP_1) (by omega)).trans bP_1, (kz.block _ (heap_lt bR_1) (by omega)).trans bR_1, (kz.block _ (heap_lt bE_1) (by omega)).trans bE_1, by have := gsh.out; rw [hlF2] at this; exact this⟩
        have hLh := Lib.hid hL
        clear hL kz K1 r1 bP_1 bR_1 bE_1 oF_1 gl gsh hlF hlF2
        go_wp2
        go_roundw
        case rel => exact ⟨j + 1, by omega, by go_num, hLh.out⟩
        case measure => simp [intOf]; omega
      have hz114 : (y == 114) = false := by simpa using hy114
      by_cases hy99 : y = 99
      · subst hy99
        have cP0 := cell_of_heap bP_0 0
        have cP1 := cell_of_heap bP_0 1
        have cP2 := cell_of_heap bP_0 2
        have lP := heap_lt bP_0
        go_wp2_with fail
        refine (DrawV.l3Value wr br (q) r0 (by omega)).mono ?_
        rintro e w1 ⟨v, rfl, ⟨v0, v1⟩, hn1, r1⟩
        have z1 : wr.heap.size ≤ w1.heap.size := hn1.size
        have bP_1 := (hn1.block _ (heap_lt bP_0) (by omega)).trans bP_0
        have bR_1 := (hn1.block _ (heap_lt bR_0) (by omega)).trans bR_0
        have bE_1 := (hn1.block _ (heap_lt bE_0) (by omega)).trans bE_0
        have oF_1 := Lib.hid (oF_0.out.kb hn1 (fun b e => by omega))
        have K1 : One br w w1 := K0.trans hn1
        clear cP0 cP1 cP2 lP
        clear bP_0 bR_0 bE_0 oF_0 K0 r0 hn1
        obtain ⟨-, g, ge, gc, gf⟩ := own_cells oF_1.out (by rw [hlF.out]; decide)
        cases ge
        obtain ⟨u, gcj⟩ : ∃ u : Int, w1.cell? ⟨bf, j, none⟩ = some (.int .i64 u) := ⟨_, gc j (by have := hlF.out; omega)⟩
        have gfj := gf j
        have gsh := Lib.hid (OwnF.set1 (enc := encI) (xs := ps) (show OwnF 1 encI w1 bf 3 (.slice (some ⟨bf, 0, none⟩) ps.length 4) ps by rw [hlF.out]; exact oF_1.out) j (by have := hlF.out; omega) (v))
        have gl : (ps.set j (v)).length = 4 := by rw [List.length_set]; exact hlF.out
        clear gc gf
        have kz : Kp (fun b => b = bf) w1 (w1.setCell ⟨bf, j, none⟩ (.int .i64 (v))) := (Kp.refl (fun b => b = bf) _).setCell (.inl rfl) _
        have hlF2 := hlF.out
        have hL : LR w br p bo bf #[.slice a1 nv d1, .slice a2 0 d2, .slice a3 nb d3] (x) (j + 1) (w1.setCell ⟨bf, j, none⟩ (.int .i64 (v))) := ⟨ps.set j (v), q + 1, gl, one_on K1 kz (by omega), r1.keep kz (fun b e => by omega), by omega, (kz.block _ (heap_lt bP_1) (by omega)).trans bP_1, (kz.block _ (heap_lt bR_1) (by omega)).trans bR_1, (kz.block _ (heap_lt bE_1) (by omega)).trans bE_1, by have := gsh.out; rw [hlF2] at this; exact this⟩
        have hLh := Lib.hid hL
        clear hL kz K1 r1 bP_1 bR_1 bE_1 oF_1 gl gsh hlF hlF2
        go_wp2
        go_roundw
        case rel => exact ⟨j + 1, by omega, by go_num, hLh.out⟩
        case measure => simp [intOf]; omega
      have hz99 : (y == 99) = false := by simpa using hy99
      by_cases hy118 : y = 118
      · subst hy118
        have cP0 := cell_of_heap bP_0 0
        have cP1 := cell_of_heap bP_0 1
        have cP2 := cell_of_heap bP_0 2
        have lP := heap_lt bP_0
        go_wp2_with fail
        refine (pick wr br (q) _ r0 (by omega)).mono ?_
        rintro e w1 ⟨v, rfl, v0, v1, v2, hn1, r1⟩
        have z1 : wr.heap.size ≤ w1.heap.size := hn1.size
        have bP_1 := (hn1.block _ (heap_lt bP_0) (by omega)).trans bP_0
        have bR_1 := (hn1.block _ (heap_lt bR_0) (by omega)).trans bR_0
        have bE_1 := (hn1.block _ (heap_lt bE_0) (by omega)).trans bE_0
        have oF_1 := Lib.hid (oF_0.out.kb hn1 (fun b e => by omega))
        have K1 : One br w w1 := K0.trans hn1
        clear cP0 cP1 cP2 lP
        clear bP_0 bR_0 bE_0 oF_0 K0 r0 hn1
        clear v1 v2
        obtain ⟨-, g, ge, gc, gf⟩ := own_cells oF_1.out (by rw [hlF.out]; decide)
        cases ge
        obtain ⟨u, gcj⟩ : ∃ u : Int, w1.cell? ⟨bf, j, none⟩ = some (.int .i64 u) := ⟨_, gc j (by have := hlF.out; omega)⟩
        have gfj := gf j
        have gsh := Lib.hid (OwnF.set1 (enc := encI) (xs := ps) (show OwnF 1 encI w1 bf 3 (.slice (some ⟨bf, 0, none⟩) ps.length 4) ps by rw [hlF.out]; exact oF_1.out) j (by have := hlF.out; omega) (v))
        have gl : (ps.set j (v)).length = 4 := by rw [List.length_set]; exact hlF.out
        clear gc gf
        have kz : Kp (fun b => b = bf) w1 (w1.setCell ⟨bf, j, none⟩ (.int .i64 (v))) := (Kp.refl (fun b => b = bf) _).setCell (.inl rfl) _
        have hlF2 := hlF.out
        have hL : LR w br p bo bf #[.slice a1 nv d1, .slice a2 0 d2, .slice a3 nb d3] (x) (j + 1) (w1.setCell ⟨bf, j, none⟩ (.int .i64 (v))) := ⟨ps.set j (v), q + 1, gl, one_on K1 kz (by omega), r1.keep kz (fun b e => by omega), by omega, (kz.block _ (heap_lt bP_1) (by omega)).trans bP_1, (kz.block _ (heap_lt bR_1) (by omega)).trans bR_1, (kz.block _ (heap_lt bE_1) (by omega)).trans bE_1, by have := gsh.out; rw [hlF2] at this; exact this⟩
        have hLh := Lib.hid hL
        clear hL kz K1 r1 bP_1 bR_1 bE_1 oF_1 gl gsh hlF hlF2
        go_wp2
        go_roundw
        case rel => exact ⟨j + 1, by omega, by go_num, hLh.out⟩
        case measure => simp [intOf]; omega
      have hz118 : (y == 118) = false := by simpa using hy118
      by_cases hy97 : y = 97
      · subst hy97
        have cP0 := cell_of_heap bP_0 0
        have cP1 := cell_of_heap bP_0 1
        have cP2 := cell_of_heap bP_0 2
        have lP := heap_lt bP_0
        go_wp2_with fail
        refine (pick wr br (q) _ r0 (by omega)).mono ?_
        rintro e w1 ⟨v, rfl, v0, v1, v2, hn1, r1⟩
        have z1 : wr.heap.size ≤ w1.heap.size := hn1.size
        have bP_1 := (hn1.block _ (heap_lt bP_0) (by omega)).trans bP_0
        have bR_1 := (hn1.block _ (heap_lt bR_0) (by omega)).trans bR_0
        have bE_1 := (hn1.block _ (heap_lt bE_0) (by omega)).trans bE_0
        have oF_1 := Lib.hid (oF_0.out.kb hn1 (fun b e => by omega))
        have K1 : One br w w1 := K0.trans hn1
        clear cP0 cP1 cP2 lP
        clear bP_0 bR_0 bE_0 oF_0 K0 r0 hn1
        clear v1 v2
        obtain ⟨-, g, ge, gc, gf⟩ := own_cells oF_1.out (by rw [hlF.out]; decide)
        cases ge
        obtain ⟨u, gcj⟩ : ∃ u : Int, w1.cell? ⟨bf, j, none⟩ = some (.int .i64 u) := ⟨_, gc j (by have := hlF.out; omega)⟩
        have gfj := gf j
        have gsh := Lib.hid (OwnF.set1 (enc := encI) (xs := ps) (show OwnF 1 encI w1 bf 3 (.slice (some ⟨bf, 0, none⟩) ps.length 4) ps by rw [hlF.out]; exact oF_1.out) j (by have := hlF.out; omega) (v))
        have gl : (ps.set j (v)).length = 4 := by rw [List.length_set]; exact hlF.out
        clear gc gf
        have kz : Kp (fun b => b = bf) w1 (w1.setCell ⟨bf, j, none⟩ (.int .i64 (v))) := (Kp.refl (fun b => b = bf) _).setCell (.inl rfl) _
        have hlF2 := hlF.out
        have hL : LR w br p bo bf #[.slice a1 nv d1, .slice a2 0 d2, .slice a3 nb d3] (x) (j + 1) (w1.setCell ⟨bf, j, none⟩ (.int .i64 (v))) := ⟨ps.set j (v), q + 1, gl, one_on K1 kz (by omega), r1.keep kz (fun b e => by omega), by omega, (kz.block _ (heap_lt bP_1) (by omega)).trans bP_1, (kz.block _ (heap_lt bR_1) (by omega)).trans bR_1, (kz.block _ (heap_lt bE_1) (by omega)).trans bE_1, by have := gsh.out; rw [hlF2] at this; exact this⟩
        have hLh := Lib.hid hL
        clear hL kz K1 r1 bP_1 bR_1 bE_1 oF_1 gl gsh hlF hlF2
        go_wp2
        go_roundw
        case rel => exact ⟨j + 1, by omega, by go_num, hLh.out⟩
        case measure => simp [intOf]; omega
      have hz97 : (y == 97) = false := by simpa using hy97
      by_cases hy111 : y = 111
      · subst hy111
        have cP0 := cell_of_heap bP_0 0
        have cP1 := cell_of_heap bP_0 1
        have cP2 := cell_of_heap bP_0 2
        have lP := heap_lt bP_0
        go_wp2_with fail
        refine (pick wr br (q) _ r0 (by omega)).mono ?_
        rintro e w1 ⟨v, rfl, v0, v1, v2, hn1, r1⟩
        have z1 : wr.heap.size ≤ w1.heap.size := hn1.size
        have bP_1 := (hn1.block _ (heap_lt bP_0) (by omega)).trans bP_0
        have bR_1 := (hn1.block _ (heap_lt bR_0) (by omega)).trans bR_0
        have bE_1 := (hn1.block _ (heap_lt bE_0) (by omega)).trans bE_0
        have oF_1 := Lib.hid (oF_0.out.kb hn1 (fun b e => by omega))
        have K1 : One br w w1 := K0.trans hn1
        clear cP0 cP1 cP2 lP
        clear bP_0 bR_0 bE_0 oF_0 K0 r0 hn1
        have v7 : v < 7 := v1 (by omega)
        have hwr : IntKind.i64.wrap (4 + v) = 4 + v := IntWalk.i64_in _ (by omega)
        clear v1 v2
        obtain ⟨-, g, ge, gc, gf⟩ := own_cells oF_1.out (by rw [hlF.out]; decide)
        cases ge
        obtain ⟨u, gcj⟩ : ∃ u : Int, w1.cell? ⟨bf, j, none⟩ = some (.int .i64 u) := ⟨_, gc j (by have := hlF.out; omega)⟩
        have gfj := gf j
        have gsh := Lib.hid (OwnF.set1 (enc := encI) (xs := ps) (show OwnF 1 encI w1 bf 3 (.slice (some ⟨bf, 0, none⟩) ps.length 4) ps by rw [hlF.out]; exact oF_1.out) j (by have := hlF.out; omega) (4 + v))
        have gl : (ps.set j (4 + v)).length = 4 := by rw [List.length_set]; exact hlF.out
        clear gc gf
        have kz : Kp (fun b => b = bf) w1 (w1.setCell ⟨bf, j, none⟩ (.int .i64 (4 + v))) := (Kp.refl (fun b => b = bf) _).setCell (.inl rfl) _
        have hlF2 := hlF.out
        have hL : LR w br p bo bf #[.slice a1 nv d1, .slice a2 0 d2, .slice a3 nb d3] (x) (j + 1) (w1.setCell ⟨bf, j, none⟩ (.int .i64 (4 + v))) := ⟨ps.set j (4 + v), q + 1, gl, one_on K1 kz (by omega), r1.keep kz (fun b e => by omega), by omega, (kz.block _ (heap_lt bP_1) (by omega)).trans bP_1, (kz.block _ (heap_lt bR_1) (by omega)).trans bR_1, (kz.block _ (heap_lt bE_1) (by omega)).trans bE_1, by have := gsh.out; rw [hlF2] at this; exact this⟩
        have hLh := Lib.hid hL
        clear hL kz K1 r1 bP_1 bR_1 bE_1 oF_1 gl gsh hlF hlF2
        go_wp2
        go_roundw
        case rel => exact ⟨j + 1, by omega, by go_num, hLh.out⟩
        case measure => simp [intOf]; omega
      have hz111 : (y == 111) = false := by simpa using hy111
      have hw1 : IntKind.i64.wrap ((at_ : Int) + 1) = (at_ : Int) + 1 := IntWalk.i64_in _ (by omega)
      have hw2 : IntKind.i64.wrap ((n : Int) - at_) = (n : Int) - at_ := IntWalk.i64_in _ (by omega)
      have hw3 : IntKind.i64.wrap ((n : Int) - at_ - 1) = (n : Int) - at_ - 1 := IntWalk.i64_in _ (by omega)
      have cP0 := cell_of_heap bP_0 0
      have cP1 := cell_of_heap bP_0 1
      have cP2 := cell_of_heap bP_0 2
      have lP := heap_lt bP_0
      go_wp2_with fail
      refine (pick wr br (q) _ r0 (by omega)).mono ?_
      rintro e w1 ⟨v, rfl, v0, v1, v2, hn1, r1⟩
      have z1 : wr.heap.size ≤ w1.heap.size := hn1.size
      have bP_1 := (hn1.block _ (heap_lt bP_0) (by omega)).trans bP_0
      have bR_1 := (hn1.block _ (heap_lt bR_0) (by omega)).trans bR_0
      have bE_1 := (hn1.block _ (heap_lt bE_0) (by omega)).trans bE_0
      have oF_1 := Lib.hid (oF_0.out.kb hn1 (fun b e => by omega))
      have K1 : One br w w1 := K0.trans hn1
      clear cP0 cP1 cP2 lP
      clear bP_0 bR_0 bE_0 oF_0 K0 r0 hn1
      have v8 : v ≤ 1000 := by
        by_cases hz : 1 ≤ (n : Int) - at_ - 1
        · have := v1 hz; omega
        · have := v2 (by omega); omega
      have hwr : IntKind.i64.wrap ((at_ : Int) + 1 + v) = (at_ : Int) + 1 + v := IntWalk.i64_in _ (by omega)
      clear v1 v2
      obtain ⟨-, g, ge, gc, gf⟩ := own_cells oF_1.out (by rw [hlF.out]; decide)
      cases ge
      obtain ⟨u, gcj⟩ : ∃ u : Int, w1.cell? ⟨bf, j, none⟩ = some (.int .i64 u) := ⟨_, gc j (by have := hlF.out; omega)⟩
      have gfj := gf j
      have gsh := Lib.hid (OwnF.set1 (enc := encI) (xs := ps) (show OwnF 1 encI w1 bf 3 (.slice (some ⟨bf, 0, none⟩) ps.length 4) ps by rw [hlF.out]; exact oF_1.out) j (by have := hlF.out; omega) ((at_ : Int) + 1 + v))
      have gl : (ps.set j ((at_ : Int) + 1 + v)).length = 4 := by rw [List.length_set]; exact hlF.out
      clear gc gf
      have kz : Kp (fun b => b = bf) w1 (w1.setCell ⟨bf, j, none⟩ (.int .i64 ((at_ : Int) + 1 + v))) := (Kp.refl (fun b => b = bf) _).setCell (.inl rfl) _
      have hlF2 := hlF.out
      have hL : LR w br p bo bf #[.slice a1 nv d1, .slice a2 0 d2, .slice a3 nb d3] (x) (j + 1) (w1.setCell ⟨bf, j, none⟩ (.int .i64 ((at_ : Int) + 1 + v))) := ⟨ps.set j ((at_ : Int) + 1 + v), q + 1, gl, one_on K1 kz (by omega), r1.keep kz (fun b e => by omega), by omega, (kz.block _ (heap_lt bP_1) (by omega)).trans bP_1, (kz.block _ (heap_lt bR_1) (by omega)).trans bR_1, (kz.block _ (heap_lt bE_1) (by omega)).trans bE_1, by have := gsh.out; rw [hlF2] at this; exact this⟩
      have hLh := Lib.hid hL
      clear hL kz K1 r1 bP_1 bR_1 bE_1 oF_1 gl gsh hlF hlF2
      go_wp2
      go_roundw
      case rel => exact ⟨j + 1, by omega, by go_num, hLh.out⟩
      case measure => simp [intOf]; omega
    · have hje : j = kn := by omega
      subst hje
      clear hlt hj
      have hl4 := hlF.out
      match ps, hl4 with
      | [p0, p1, p2, p3], _ =>
        obtain ⟨-, g, ge, gc, gf⟩ := own_cells oF_0.out (by simp)
        cases ge
        have g0 : wr.cell? ⟨bf, 0, none⟩ = some (.int .i64 p0) := gc 0 (by simp)
        have g1 : wr.cell? ⟨bf, 1, none⟩ = some (.int .i64 p1) := gc 1 (by simp)
        have g2 : wr.cell? ⟨bf, 2, none⟩ = some (.int .i64 p2) := gc 2 (by simp)
        have g3 : wr.cell? ⟨bf, 3, none⟩ = some (.int .i64 p3) := gc 3 (by simp)
        clear gc gf oF_0 hlF
        have cE0 := cell_of_heap bE_0 0
        have lE := heap_lt bE_0
        have cR0 := cell_of_heap bR_0 0
        have cR1 := cell_of_heap bR_0 1
        have cR2 := cell_of_heap bR_0 2
        have cR3 := cell_of_heap bR_0 3
        have cR4 := cell_of_heap bR_0 4
        have fR := frozen_of_heap bR_0
        have lR := heap_lt bR_0
        go_wp2_with fail
        refine wp_region_tail (k := 15) (S := fun w' => w'.cell? ⟨bo, 0, none⟩ = some (.int .i64 x) ∧ w'.cell? ⟨bf, 0, none⟩ = some (.int .i64 p0) ∧ w'.cell? ⟨bf, 1, none⟩ = some (.int .i64 p1) ∧ w'.cell? ⟨bf, 2, none⟩ = some (.int .i64 p2) ∧ w'.cell? ⟨bf, 3, none⟩ = some (.int .i64 p3)) (by kernel_rfl) ?_ (fun hHeld => ?_)
        · exact ⟨cE0, g0, g1, g2, g3⟩
        clear cE0 lE cR0 cR1 cR2 cR3 cR4 fR lR
        have hn1 : New wr wr.drew := (Kp.refl _ _).drew
        generalize wr.drew = w1 at *
        have z1 : wr.heap.size ≤ w1.heap.size := hn1.size
        have bR_1 := (hn1.block _ (heap_lt bR_0) (fun f => f)).trans bR_0
        have bE_1 := (hn1.block _ (heap_lt bE_0) (fun f => f)).trans bE_0
        have K1 : One br w w1 := K0.trans (hn1.mono fun _ _ f => f.elim)
        have r1 := r0.keep hn1 (fun _ f => f.elim)
        clear bR_0 bE_0 K0 r0 hn1
        refine AnyK.takeW (i := 0) (v := ?vq46) rfl (by kernel_rfl) (by kernel_rfl) (by kernel_rfl) (by kernel_rfl) (fun _ _ _ h => h) (Or.inl ⟨by kernel_rfl, ?yq46⟩) (by assumption) ?rq46
        case yq46 =>
          intro w hSw
          try dsimp only at hSw
          go_simp
          try with_reducible rfl
        try simp only [Act.put, List.getElem_toArray, List.getElem_cons_zero, List.setIfInBounds_toArray, List.set_cons_zero, List.set_cons_succ]
        refine AnyK.take (i := 1) (v := ?vq47) rfl (by kernel_rfl) (by kernel_rfl) (by kernel_rfl) (by kernel_rfl) (fun _ _ _ h => h) (Or.inl ⟨by kernel_rfl, ?yq47⟩) (by assumption) ?rq47
        case yq47 =>
          intro w hSw
          try dsimp only at hSw
          go_simp
          try with_reducible rfl
        try simp only [Act.put, List.getElem_toArray, List.getElem_cons_zero, List.getElem_cons_succ, List.setIfInBounds_toArray, List.set_cons_zero, List.set_cons_succ]
        refine AnyK.takeW (i := 2) (v := ?vq48) rfl (by kernel_rfl) (by kernel_rfl) (by kernel_rfl) (by kernel_rfl) (fun _ _ _ h => h) (Or.inl ⟨by kernel_rfl, ?yq48⟩) (by assumption) ?rq48
        case yq48 =>
          intro w hSw
          try dsimp only at hSw
          go_simp
          try with_reducible rfl
        try simp only [Act.put, List.getElem_toArray, List.getElem_cons_zero, List.getElem_cons_succ, List.setIfInBounds_toArray, List.set_cons_zero, List.set_cons_succ]
        refine AnyK.takeW (i := 3) (v := ?vq49) rfl (by kernel_rfl) (by kernel_rfl) (by kernel_rfl) (by kernel_rfl) (fun _ _ _ h => h) (Or.inl ⟨by kernel_rfl, ?yq49⟩) (by assumption) ?rq49
        case yq49 =>
          intro w hSw
          try dsimp only at hSw
          go_simp
          try with_reducible rfl
        try simp only [Act.put, List.getElem_toArray, List.getElem_cons_zero, List.getElem_cons_succ, List.setIfInBounds_toArray, List.set_cons_zero, List.set_cons_succ]
        refine AnyK.take (i := 4) (v := ?vq50) rfl (by kernel_rfl) (by kernel_rfl) (by kernel_rfl) (by kernel_rfl) (fun _ _ _ h => h) (Or.inl ⟨by kernel_rfl, ?yq50⟩) (by assumption) ?rq50
        case yq50 =>
          intro w hSw
          try dsimp only at hSw
          go_simp
          try with_reducible rfl
        try simp only [Act.put, List.getElem_toArray, List.getElem_cons_zero, List.getElem_cons_succ, List.setIfInBounds_toArray, List.set_cons_zero, List.set_cons_succ]
        refine AnyK.takeW (i := 5) (v := ?vq51) rfl (by kernel_rfl) (by kernel_rfl) (by kernel_rfl) (by kernel_rfl) (fun _ _ _ h => h) (Or.inl ⟨by kernel_rfl, ?yq51⟩) (by assumption) ?rq51
        case yq51 =>
          intro w hSw
          try dsimp only at hSw
          go_simp
          try with_reducible rfl
        try simp only [Act.put, List.getElem_toArray, List.getElem_cons_zero, List.getElem_cons_succ, List.setIfInBounds_toArray, List.set_cons_zero, List.set_cons_succ]
        refine AnyK.takeW (i := 6) (v := ?vq52) rfl (by kernel_rfl) (by kernel_rfl) (by kernel_rfl) (by kernel_rfl) (fun _ _ _ h => h) (Or.inl ⟨by kernel_rfl, ?yq52⟩) (by assumption) ?rq52
        case yq52 =>
          intro w hSw
          try dsimp only at hSw
          go_simp
          try with_reducible rfl
        try simp only [Act.put, List.getElem_toArray, List.getElem_cons_zero, List.getElem_cons_succ, List.setIfInBounds_toArray, List.set_cons_zero, List.set_cons_succ]
        refine AnyK.take (i := 7) (v := ?vq53) rfl (by kernel_rfl) (by kernel_rfl) (by kernel_rfl) (by kernel_rfl) (fun _ _ _ h => h) (Or.inl ⟨by kernel_rfl, ?yq53⟩) (by assumption) ?rq53
        case yq53 =>
          intro w hSw
          try dsimp only at hSw
          go_simp
          try with_reducible rfl
        try simp only [Act.put, List.getElem_toArray, List.getElem_cons_zero, List.getElem_cons_succ, List.setIfInBounds_toArray, List.set_cons_zero, List.set_cons_succ]
        refine AnyK.takeW (i := 8) (v := ?vq54) rfl (by kernel_rfl) (by kernel_rfl) (by kernel_rfl) (by kernel_rfl) (fun _ _ _ h => h) (Or.inl ⟨by kernel_rfl, ?yq54⟩) (by assumption) ?rq54
        case yq54 =>
          intro w hSw
          try dsimp only at hSw
          go_simp
          try with_reducible rfl
        try simp only [Act.put, List.getElem_toArray, List.getElem_cons_zero, List.getElem_cons_succ, List.setIfInBounds_toArray, List.set_cons_zero, List.set_cons_succ]
        refine AnyK.takeW (i := 9) (v := ?vq55) rfl (by kernel_rfl) (by kernel_rfl) (by kernel_rfl) (by kernel_rfl) (fun _ _ _ h => h) (Or.inl ⟨by kernel_rfl, ?yq55⟩) (by assumption) ?rq55
        case yq55 =>
          intro w hSw
          try dsimp only at hSw
          go_simp
          try with_reducible rfl
        try simp only [Act.put, List.getElem_toArray, List.getElem_cons_zero, List.getElem_cons_succ, List.setIfInBounds_toArray, List.set_cons_zero, List.set_cons_succ]
        refine AnyK.take (i := 10) (v := ?vq56) rfl (by kernel_rfl) (by kernel_rfl) (by kernel_rfl) (by kernel_rfl) (fun _ _ _ h => h) (Or.inl ⟨by kernel_rfl, ?yq56⟩) (by assumption) ?rq56
        case yq56 =>
          intro w hSw
          try dsimp only at hSw
          go_simp
          try with_reducible rfl
        try simp only [Act.put, List.getElem_toArray, List.getElem_cons_zero, List.getElem_cons_succ, List.setIfInBounds_toArray, List.set_cons_zero, List.set_cons_succ]
        refine AnyK.takeW (i := 11) (v := ?vq57) rfl (by kernel_rfl) (by kernel_rfl) (by kernel_rfl) (by kernel_rfl) (fun _ _ _ h => h) (Or.inl ⟨by kernel_rfl, ?yq57⟩) (by assumption) ?rq57
        case yq57 =>
          intro w hSw
          try dsimp only at hSw
          go_simp
          try with_reducible rfl
        try simp only [Act.put, List.getElem_toArray, List.getElem_cons_zero, List.getElem_cons_succ, List.setIfInBounds_toArray, List.set_cons_zero, List.set_cons_succ]
        refine AnyK.takeW (i := 12) (v := ?vq58) rfl (by kernel_rfl) (by kernel_rfl) (by kernel_rfl) (by kernel_rfl) (fun _ _ _ h => h) (Or.inl ⟨by kernel_rfl, ?yq58⟩) (by assumption) ?rq58
        case yq58 =>
          intro w hSw
          try dsimp only at hSw
          go_simp
          try with_reducible rfl
        try simp only [Act.put, List.getElem_toArray, List.getElem_cons_zero, List.getElem_cons_succ, List.setIfInBounds_toArray, List.set_cons_zero, List.set_cons_succ]
        refine AnyK.take (i := 13) (v := ?vq59) rfl (by kernel_rfl) (by kernel_rfl) (by kernel_rfl) (by kernel_rfl) (fun _ _ _ h => h) (Or.inl ⟨by kernel_rfl, ?yq59⟩) (by assumption) ?rq59
        case yq59 =>
          intro w hSw
          try dsimp only at hSw
          go_simp
          try with_reducible rfl
        try simp only [Act.put, List.getElem_toArray, List.getElem_cons_zero, List.getElem_cons_succ, List.setIfInBounds_toArray, List.set_cons_zero, List.set_cons_succ]
        refine AnyK.takeW (i := 14) (v := ?vq60) rfl (by kernel_rfl) (by kernel_rfl) (by kernel_rfl) (by kernel_rfl) (fun _ _ _ h => h) (Or.inl ⟨by kernel_rfl, ?yq60⟩) (by assumption) ?rq60
        case yq60 =>
          intro w hSw
          try dsimp only at hSw
          go_simp
          try with_reducible rfl
        try simp only [Act.put, List.getElem_toArray, List.getElem_cons_zero, List.getElem_cons_succ, List.setIfInBounds_toArray, List.set_cons_zero, List.set_cons_succ]
        refine AnyK.last (by kernel_rfl) ?_
        simp only [List.drop_succ_cons, List.drop_zero]
        clear hHeld
        have cR0 := cell_of_heap bR_1 0
        have cR1 := cell_of_heap bR_1 1
        have cR2 := cell_of_heap bR_1 2
        have cR3 := cell_of_heap bR_1 3
        have cR4 := cell_of_heap bR_1 4
        have fR := frozen_of_heap bR_1
        have lR := heap_lt bR_1
        go_wp2
        have hkz := setMany_kp (w.heap.size + 1) [.int .i64 x, .int .i64 p0, .int .i64 p1, .int .i64 p2, .int .i64 p3] w1 0
        have zs := setMany_size (w.heap.size + 1) [.int .i64 x, .int .i64 p0, .int .i64 p1, .int .i64 p2, .int .i64 p3] w1 0
        have hR := setMany_row [.int .i64 x, .int .i64 p0, .int .i64 p1, .int .i64 p2, .int .i64 p3] bR_1 rfl
        exact bodyPost_ret (results_cell_row rfl _ _ _ _ _ _ _ rfl hR Try.underlying44 rfl (by kernel_rfl)) rfl ⟨⟨x, p0, p1, p2, p3⟩, q, rfl, one_on K1 hkz (by omega), r1.keep hkz (fun b e => by omega), by omega⟩
end Go.Proofs.Ytljokgoghphgdaa.DrawC
